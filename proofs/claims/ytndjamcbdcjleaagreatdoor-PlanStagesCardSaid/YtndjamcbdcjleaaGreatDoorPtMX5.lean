/- Rows that turn memory: runs by the evaluator, in the kernel, in every order. No conditions. -/
import Derived.Test.YtndjamcbdcjleaaGreatDoorPtH
namespace Go.Proofs.YtndjamcbdcjleaaGreatDoor
open Go.VM
set_option maxRecDepth 1000000 in
theorem mr40_ok : mr40.ok Tryz.prog laidL = true := by decide +kernel
set_option maxRecDepth 1000000 in
theorem mr40_run : (picks mr40.pre).all (fun c => @runF Tryz.prog hookA (covers mr40) 500000 (startM Tryz.prog laidL 37 mr40.args c keyT)) = true := by decide +kernel
set_option maxRecDepth 1000000 in
theorem mr41_ok : mr41.ok Tryz.prog laidL = true := by decide +kernel
set_option maxRecDepth 1000000 in
theorem mr41_run : (picks mr41.pre).all (fun c => @runF Tryz.prog hookA (covers mr41) 500000 (startM Tryz.prog laidL 37 mr41.args c keyT)) = true := by decide +kernel
set_option maxRecDepth 1000000 in
theorem mr42_ok : mr42.ok Tryz.prog laidL = true := by decide +kernel
set_option maxRecDepth 1000000 in
theorem mr42_run : (picks mr42.pre).all (fun c => @runF Tryz.prog hookA (covers mr42) 500000 (startM Tryz.prog laidL 37 mr42.args c keyT)) = true := by decide +kernel
set_option maxRecDepth 1000000 in
theorem mr43_ok : mr43.ok Tryz.prog laidL = true := by decide +kernel
set_option maxRecDepth 1000000 in
theorem mr43_run : (picks mr43.pre).all (fun c => @runF Tryz.prog hookA (covers mr43) 500000 (startM Tryz.prog laidL 37 mr43.args c keyT)) = true := by decide +kernel
set_option maxRecDepth 1000000 in
theorem mr44_ok : mr44.ok Tryz.prog laidL = true := by decide +kernel
set_option maxRecDepth 1000000 in
theorem mr44_run : (picks mr44.pre).all (fun c => @runF Tryz.prog hookA (covers mr44) 500000 (startM Tryz.prog laidL 37 mr44.args c keyT)) = true := by decide +kernel
set_option maxRecDepth 1000000 in
theorem mr45_ok : mr45.ok Tryz.prog laidL = true := by decide +kernel
set_option maxRecDepth 1000000 in
theorem mr45_run : (picks mr45.pre).all (fun c => @runF Tryz.prog hookA (covers mr45) 500000 (startM Tryz.prog laidL 37 mr45.args c keyT)) = true := by decide +kernel
set_option maxRecDepth 1000000 in
theorem mr46_ok : mr46.ok Tryz.prog laidL = true := by decide +kernel
set_option maxRecDepth 1000000 in
theorem mr46_run : (picks mr46.pre).all (fun c => @runF Tryz.prog hookA (covers mr46) 500000 (startM Tryz.prog laidL 37 mr46.args c keyT)) = true := by decide +kernel
set_option maxRecDepth 1000000 in
theorem mr47_ok : mr47.ok Tryz.prog laidL = true := by decide +kernel
set_option maxRecDepth 1000000 in
theorem mr47_run : (picks mr47.pre).all (fun c => @runF Tryz.prog hookA (covers mr47) 500000 (startM Tryz.prog laidL 37 mr47.args c keyT)) = true := by decide +kernel
end Go.Proofs.YtndjamcbdcjleaaGreatDoor
