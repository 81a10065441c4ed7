/- Rows that turn memory: runs by the evaluator, in the kernel, in every order. No conditions. -/
import Derived.Test.YtndjamcbdcjleaaGreatDoorPtH
namespace Go.Proofs.YtndjamcbdcjleaaGreatDoor
open Go.VM
set_option maxRecDepth 1000000 in
theorem mr32_ok : mr32.ok Tryz.prog laidL = true := by decide +kernel
set_option maxRecDepth 1000000 in
theorem mr32_run : (picks mr32.pre).all (fun c => @runF Tryz.prog hookA (covers mr32) 500000 (startM Tryz.prog laidL 37 mr32.args c keyT)) = true := by decide +kernel
set_option maxRecDepth 1000000 in
theorem mr33_ok : mr33.ok Tryz.prog laidL = true := by decide +kernel
set_option maxRecDepth 1000000 in
theorem mr33_run : (picks mr33.pre).all (fun c => @runF Tryz.prog hookA (covers mr33) 500000 (startM Tryz.prog laidL 37 mr33.args c keyT)) = true := by decide +kernel
set_option maxRecDepth 1000000 in
theorem mr34_ok : mr34.ok Tryz.prog laidL = true := by decide +kernel
set_option maxRecDepth 1000000 in
theorem mr34_run : (picks mr34.pre).all (fun c => @runF Tryz.prog hookA (covers mr34) 500000 (startM Tryz.prog laidL 37 mr34.args c keyT)) = true := by decide +kernel
set_option maxRecDepth 1000000 in
theorem mr35_ok : mr35.ok Tryz.prog laidL = true := by decide +kernel
set_option maxRecDepth 1000000 in
theorem mr35_run : (picks mr35.pre).all (fun c => @runF Tryz.prog hookA (covers mr35) 500000 (startM Tryz.prog laidL 37 mr35.args c keyT)) = true := by decide +kernel
set_option maxRecDepth 1000000 in
theorem mr36_ok : mr36.ok Tryz.prog laidL = true := by decide +kernel
set_option maxRecDepth 1000000 in
theorem mr36_run : (picks mr36.pre).all (fun c => @runF Tryz.prog hookA (covers mr36) 500000 (startM Tryz.prog laidL 37 mr36.args c keyT)) = true := by decide +kernel
set_option maxRecDepth 1000000 in
theorem mr37_ok : mr37.ok Tryz.prog laidL = true := by decide +kernel
set_option maxRecDepth 1000000 in
theorem mr37_run : (picks mr37.pre).all (fun c => @runF Tryz.prog hookA (covers mr37) 500000 (startM Tryz.prog laidL 37 mr37.args c keyT)) = true := by decide +kernel
set_option maxRecDepth 1000000 in
theorem mr38_ok : mr38.ok Tryz.prog laidL = true := by decide +kernel
set_option maxRecDepth 1000000 in
theorem mr38_run : (picks mr38.pre).all (fun c => @runF Tryz.prog hookA (covers mr38) 500000 (startM Tryz.prog laidL 37 mr38.args c keyT)) = true := by decide +kernel
set_option maxRecDepth 1000000 in
theorem mr39_ok : mr39.ok Tryz.prog laidL = true := by decide +kernel
set_option maxRecDepth 1000000 in
theorem mr39_run : (picks mr39.pre).all (fun c => @runF Tryz.prog hookA (covers mr39) 500000 (startM Tryz.prog laidL 37 mr39.args c keyT)) = true := by decide +kernel
end Go.Proofs.YtndjamcbdcjleaaGreatDoor
