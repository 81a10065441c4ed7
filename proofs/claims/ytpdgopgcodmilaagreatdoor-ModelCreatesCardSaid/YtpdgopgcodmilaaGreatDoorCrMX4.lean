/- Rows that turn memory: runs by the evaluator, in the kernel, in every order. No conditions. -/
import Derived.Test.YtpdgopgcodmilaaGreatDoorCrH
namespace Go.Proofs.YtpdgopgcodmilaaGreatDoor
open Go.VM
set_option maxRecDepth 1000000 in
theorem mr36_ok : mr36.ok Tryz.prog laidL = true := by decide +kernel
set_option maxRecDepth 1000000 in
theorem mr36_run : (picks mr36.pre).all (fun c => @runF Tryz.prog hookA (covers mr36) 500000 (startM Tryz.prog laidL 10 mr36.args c keyT)) = true := by decide +kernel
set_option maxRecDepth 1000000 in
theorem mr37_ok : mr37.ok Tryz.prog laidL = true := by decide +kernel
set_option maxRecDepth 1000000 in
theorem mr37_run : (picks mr37.pre).all (fun c => @runF Tryz.prog hookA (covers mr37) 500000 (startM Tryz.prog laidL 10 mr37.args c keyT)) = true := by decide +kernel
set_option maxRecDepth 1000000 in
theorem mr38_ok : mr38.ok Tryz.prog laidL = true := by decide +kernel
set_option maxRecDepth 1000000 in
theorem mr38_run : (picks mr38.pre).all (fun c => @runF Tryz.prog hookA (covers mr38) 500000 (startM Tryz.prog laidL 10 mr38.args c keyT)) = true := by decide +kernel
set_option maxRecDepth 1000000 in
theorem mr39_ok : mr39.ok Tryz.prog laidL = true := by decide +kernel
set_option maxRecDepth 1000000 in
theorem mr39_run : (picks mr39.pre).all (fun c => @runF Tryz.prog hookA (covers mr39) 500000 (startM Tryz.prog laidL 10 mr39.args c keyT)) = true := by decide +kernel
set_option maxRecDepth 1000000 in
theorem mr40_ok : mr40.ok Tryz.prog laidL = true := by decide +kernel
set_option maxRecDepth 1000000 in
theorem mr40_run : (picks mr40.pre).all (fun c => @runF Tryz.prog hookA (covers mr40) 500000 (startM Tryz.prog laidL 10 mr40.args c keyT)) = true := by decide +kernel
set_option maxRecDepth 1000000 in
theorem mr41_ok : mr41.ok Tryz.prog laidL = true := by decide +kernel
set_option maxRecDepth 1000000 in
theorem mr41_run : (picks mr41.pre).all (fun c => @runF Tryz.prog hookA (covers mr41) 500000 (startM Tryz.prog laidL 10 mr41.args c keyT)) = true := by decide +kernel
set_option maxRecDepth 1000000 in
theorem mr42_ok : mr42.ok Tryz.prog laidL = true := by decide +kernel
set_option maxRecDepth 1000000 in
theorem mr42_run : (picks mr42.pre).all (fun c => @runF Tryz.prog hookA (covers mr42) 500000 (startM Tryz.prog laidL 10 mr42.args c keyT)) = true := by decide +kernel
set_option maxRecDepth 1000000 in
theorem mr43_ok : mr43.ok Tryz.prog laidL = true := by decide +kernel
set_option maxRecDepth 1000000 in
theorem mr43_run : (picks mr43.pre).all (fun c => @runF Tryz.prog hookA (covers mr43) 500000 (startM Tryz.prog laidL 10 mr43.args c keyT)) = true := by decide +kernel
set_option maxRecDepth 1000000 in
theorem mr44_ok : mr44.ok Tryz.prog laidL = true := by decide +kernel
set_option maxRecDepth 1000000 in
theorem mr44_run : (picks mr44.pre).all (fun c => @runF Tryz.prog hookA (covers mr44) 500000 (startM Tryz.prog laidL 10 mr44.args c keyT)) = true := by decide +kernel
end Go.Proofs.YtpdgopgcodmilaaGreatDoor
