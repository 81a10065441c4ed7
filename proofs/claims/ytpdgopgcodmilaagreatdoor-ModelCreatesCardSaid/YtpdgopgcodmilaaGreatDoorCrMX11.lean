/- Rows that turn memory: runs by the evaluator, in the kernel, in every order. No conditions. -/
import Derived.Test.YtpdgopgcodmilaaGreatDoorCrH
namespace Go.Proofs.YtpdgopgcodmilaaGreatDoor
open Go.VM
set_option maxRecDepth 1000000 in
theorem mr99_ok : mr99.ok Tryz.prog laidL = true := by decide +kernel
set_option maxRecDepth 1000000 in
theorem mr99_run : (picks mr99.pre).all (fun c => @runF Tryz.prog hookA (covers mr99) 500000 (startM Tryz.prog laidL 10 mr99.args c keyT)) = true := by decide +kernel
set_option maxRecDepth 1000000 in
theorem mr100_ok : mr100.ok Tryz.prog laidL = true := by decide +kernel
set_option maxRecDepth 1000000 in
theorem mr100_run : (picks mr100.pre).all (fun c => @runF Tryz.prog hookA (covers mr100) 500000 (startM Tryz.prog laidL 10 mr100.args c keyT)) = true := by decide +kernel
end Go.Proofs.YtpdgopgcodmilaaGreatDoor
