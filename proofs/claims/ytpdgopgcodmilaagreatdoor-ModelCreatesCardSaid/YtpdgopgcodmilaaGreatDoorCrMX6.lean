/- Rows that turn memory: runs by the evaluator, in the kernel, in every order. No conditions. -/
import Derived.Test.YtpdgopgcodmilaaGreatDoorCrH
namespace Go.Proofs.YtpdgopgcodmilaaGreatDoor
open Go.VM
set_option maxRecDepth 1000000 in
theorem mr54_ok : mr54.ok Tryz.prog laidL = true := by decide +kernel
set_option maxRecDepth 1000000 in
theorem mr54_run : (picks mr54.pre).all (fun c => @runF Tryz.prog hookA (covers mr54) 500000 (startM Tryz.prog laidL 10 mr54.args c keyT)) = true := by decide +kernel
set_option maxRecDepth 1000000 in
theorem mr55_ok : mr55.ok Tryz.prog laidL = true := by decide +kernel
set_option maxRecDepth 1000000 in
theorem mr55_run : (picks mr55.pre).all (fun c => @runF Tryz.prog hookA (covers mr55) 500000 (startM Tryz.prog laidL 10 mr55.args c keyT)) = true := by decide +kernel
set_option maxRecDepth 1000000 in
theorem mr56_ok : mr56.ok Tryz.prog laidL = true := by decide +kernel
set_option maxRecDepth 1000000 in
theorem mr56_run : (picks mr56.pre).all (fun c => @runF Tryz.prog hookA (covers mr56) 500000 (startM Tryz.prog laidL 10 mr56.args c keyT)) = true := by decide +kernel
set_option maxRecDepth 1000000 in
theorem mr57_ok : mr57.ok Tryz.prog laidL = true := by decide +kernel
set_option maxRecDepth 1000000 in
theorem mr57_run : (picks mr57.pre).all (fun c => @runF Tryz.prog hookA (covers mr57) 500000 (startM Tryz.prog laidL 10 mr57.args c keyT)) = true := by decide +kernel
set_option maxRecDepth 1000000 in
theorem mr58_ok : mr58.ok Tryz.prog laidL = true := by decide +kernel
set_option maxRecDepth 1000000 in
theorem mr58_run : (picks mr58.pre).all (fun c => @runF Tryz.prog hookA (covers mr58) 500000 (startM Tryz.prog laidL 10 mr58.args c keyT)) = true := by decide +kernel
set_option maxRecDepth 1000000 in
theorem mr59_ok : mr59.ok Tryz.prog laidL = true := by decide +kernel
set_option maxRecDepth 1000000 in
theorem mr59_run : (picks mr59.pre).all (fun c => @runF Tryz.prog hookA (covers mr59) 500000 (startM Tryz.prog laidL 10 mr59.args c keyT)) = true := by decide +kernel
set_option maxRecDepth 1000000 in
theorem mr60_ok : mr60.ok Tryz.prog laidL = true := by decide +kernel
set_option maxRecDepth 1000000 in
theorem mr60_run : (picks mr60.pre).all (fun c => @runF Tryz.prog hookA (covers mr60) 500000 (startM Tryz.prog laidL 10 mr60.args c keyT)) = true := by decide +kernel
set_option maxRecDepth 1000000 in
theorem mr61_ok : mr61.ok Tryz.prog laidL = true := by decide +kernel
set_option maxRecDepth 1000000 in
theorem mr61_run : (picks mr61.pre).all (fun c => @runF Tryz.prog hookA (covers mr61) 500000 (startM Tryz.prog laidL 10 mr61.args c keyT)) = true := by decide +kernel
set_option maxRecDepth 1000000 in
theorem mr62_ok : mr62.ok Tryz.prog laidL = true := by decide +kernel
set_option maxRecDepth 1000000 in
theorem mr62_run : (picks mr62.pre).all (fun c => @runF Tryz.prog hookA (covers mr62) 500000 (startM Tryz.prog laidL 10 mr62.args c keyT)) = true := by decide +kernel
end Go.Proofs.YtpdgopgcodmilaaGreatDoor
