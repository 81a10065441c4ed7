/- Rows that turn memory: runs by the evaluator, in the kernel, in every order. No conditions. -/
import Derived.Test.YtndjamcbdcjleaaGreatDoorPtH
namespace Go.Proofs.YtndjamcbdcjleaaGreatDoor
open Go.VM
set_option maxRecDepth 1000000 in
theorem mr56_ok : mr56.ok Tryz.prog laidL = true := by decide +kernel
set_option maxRecDepth 1000000 in
theorem mr56_run : (picks mr56.pre).all (fun c => @runF Tryz.prog hookA (covers mr56) 500000 (startM Tryz.prog laidL 37 mr56.args c keyT)) = true := by decide +kernel
set_option maxRecDepth 1000000 in
theorem mr57_ok : mr57.ok Tryz.prog laidL = true := by decide +kernel
set_option maxRecDepth 1000000 in
theorem mr57_run : (picks mr57.pre).all (fun c => @runF Tryz.prog hookA (covers mr57) 500000 (startM Tryz.prog laidL 37 mr57.args c keyT)) = true := by decide +kernel
end Go.Proofs.YtndjamcbdcjleaaGreatDoor
