/- Rows that turn memory: runs by the evaluator, in the kernel, in every order. No conditions. -/
import Derived.Test.YtpdgopgcodmilaaGreatDoorCrH
namespace Go.Proofs.YtpdgopgcodmilaaGreatDoor
open Go.VM
set_option maxRecDepth 1000000 in
theorem mr81_ok : mr81.ok Tryz.prog laidL = true := by decide +kernel
set_option maxRecDepth 1000000 in
theorem mr81_run : (picks mr81.pre).all (fun c => @runF Tryz.prog hookA (covers mr81) 500000 (startM Tryz.prog laidL 10 mr81.args c keyT)) = true := by decide +kernel
set_option maxRecDepth 1000000 in
theorem mr82_ok : mr82.ok Tryz.prog laidL = true := by decide +kernel
set_option maxRecDepth 1000000 in
theorem mr82_run : (picks mr82.pre).all (fun c => @runF Tryz.prog hookA (covers mr82) 500000 (startM Tryz.prog laidL 10 mr82.args c keyT)) = true := by decide +kernel
set_option maxRecDepth 1000000 in
theorem mr83_ok : mr83.ok Tryz.prog laidL = true := by decide +kernel
set_option maxRecDepth 1000000 in
theorem mr83_run : (picks mr83.pre).all (fun c => @runF Tryz.prog hookA (covers mr83) 500000 (startM Tryz.prog laidL 10 mr83.args c keyT)) = true := by decide +kernel
set_option maxRecDepth 1000000 in
theorem mr84_ok : mr84.ok Tryz.prog laidL = true := by decide +kernel
set_option maxRecDepth 1000000 in
theorem mr84_run : (picks mr84.pre).all (fun c => @runF Tryz.prog hookA (covers mr84) 500000 (startM Tryz.prog laidL 10 mr84.args c keyT)) = true := by decide +kernel
set_option maxRecDepth 1000000 in
theorem mr85_ok : mr85.ok Tryz.prog laidL = true := by decide +kernel
set_option maxRecDepth 1000000 in
theorem mr85_run : (picks mr85.pre).all (fun c => @runF Tryz.prog hookA (covers mr85) 500000 (startM Tryz.prog laidL 10 mr85.args c keyT)) = true := by decide +kernel
set_option maxRecDepth 1000000 in
theorem mr86_ok : mr86.ok Tryz.prog laidL = true := by decide +kernel
set_option maxRecDepth 1000000 in
theorem mr86_run : (picks mr86.pre).all (fun c => @runF Tryz.prog hookA (covers mr86) 500000 (startM Tryz.prog laidL 10 mr86.args c keyT)) = true := by decide +kernel
set_option maxRecDepth 1000000 in
theorem mr87_ok : mr87.ok Tryz.prog laidL = true := by decide +kernel
set_option maxRecDepth 1000000 in
theorem mr87_run : (picks mr87.pre).all (fun c => @runF Tryz.prog hookA (covers mr87) 500000 (startM Tryz.prog laidL 10 mr87.args c keyT)) = true := by decide +kernel
set_option maxRecDepth 1000000 in
theorem mr88_ok : mr88.ok Tryz.prog laidL = true := by decide +kernel
set_option maxRecDepth 1000000 in
theorem mr88_run : (picks mr88.pre).all (fun c => @runF Tryz.prog hookA (covers mr88) 500000 (startM Tryz.prog laidL 10 mr88.args c keyT)) = true := by decide +kernel
set_option maxRecDepth 1000000 in
theorem mr89_ok : mr89.ok Tryz.prog laidL = true := by decide +kernel
set_option maxRecDepth 1000000 in
theorem mr89_run : (picks mr89.pre).all (fun c => @runF Tryz.prog hookA (covers mr89) 500000 (startM Tryz.prog laidL 10 mr89.args c keyT)) = true := by decide +kernel
end Go.Proofs.YtpdgopgcodmilaaGreatDoor
