/- Rows that turn memory: runs by the evaluator, in the kernel, in every order. No conditions. -/
import Derived.Test.YtpdgopgcodmilaaGreatDoorCrH
namespace Go.Proofs.YtpdgopgcodmilaaGreatDoor
open Go.VM
set_option maxRecDepth 1000000 in
theorem mr18_ok : mr18.ok Tryz.prog laidL = true := by decide +kernel
set_option maxRecDepth 1000000 in
theorem mr18_run : (picks mr18.pre).all (fun c => @runF Tryz.prog hookA (covers mr18) 500000 (startM Tryz.prog laidL 10 mr18.args c keyT)) = true := by decide +kernel
set_option maxRecDepth 1000000 in
theorem mr19_ok : mr19.ok Tryz.prog laidL = true := by decide +kernel
set_option maxRecDepth 1000000 in
theorem mr19_run : (picks mr19.pre).all (fun c => @runF Tryz.prog hookA (covers mr19) 500000 (startM Tryz.prog laidL 10 mr19.args c keyT)) = true := by decide +kernel
set_option maxRecDepth 1000000 in
theorem mr20_ok : mr20.ok Tryz.prog laidL = true := by decide +kernel
set_option maxRecDepth 1000000 in
theorem mr20_run : (picks mr20.pre).all (fun c => @runF Tryz.prog hookA (covers mr20) 500000 (startM Tryz.prog laidL 10 mr20.args c keyT)) = true := by decide +kernel
set_option maxRecDepth 1000000 in
theorem mr21_ok : mr21.ok Tryz.prog laidL = true := by decide +kernel
set_option maxRecDepth 1000000 in
theorem mr21_run : (picks mr21.pre).all (fun c => @runF Tryz.prog hookA (covers mr21) 500000 (startM Tryz.prog laidL 10 mr21.args c keyT)) = true := by decide +kernel
set_option maxRecDepth 1000000 in
theorem mr22_ok : mr22.ok Tryz.prog laidL = true := by decide +kernel
set_option maxRecDepth 1000000 in
theorem mr22_run : (picks mr22.pre).all (fun c => @runF Tryz.prog hookA (covers mr22) 500000 (startM Tryz.prog laidL 10 mr22.args c keyT)) = true := by decide +kernel
set_option maxRecDepth 1000000 in
theorem mr23_ok : mr23.ok Tryz.prog laidL = true := by decide +kernel
set_option maxRecDepth 1000000 in
theorem mr23_run : (picks mr23.pre).all (fun c => @runF Tryz.prog hookA (covers mr23) 500000 (startM Tryz.prog laidL 10 mr23.args c keyT)) = true := by decide +kernel
set_option maxRecDepth 1000000 in
theorem mr24_ok : mr24.ok Tryz.prog laidL = true := by decide +kernel
set_option maxRecDepth 1000000 in
theorem mr24_run : (picks mr24.pre).all (fun c => @runF Tryz.prog hookA (covers mr24) 500000 (startM Tryz.prog laidL 10 mr24.args c keyT)) = true := by decide +kernel
set_option maxRecDepth 1000000 in
theorem mr25_ok : mr25.ok Tryz.prog laidL = true := by decide +kernel
set_option maxRecDepth 1000000 in
theorem mr25_run : (picks mr25.pre).all (fun c => @runF Tryz.prog hookA (covers mr25) 500000 (startM Tryz.prog laidL 10 mr25.args c keyT)) = true := by decide +kernel
set_option maxRecDepth 1000000 in
theorem mr26_ok : mr26.ok Tryz.prog laidL = true := by decide +kernel
set_option maxRecDepth 1000000 in
theorem mr26_run : (picks mr26.pre).all (fun c => @runF Tryz.prog hookA (covers mr26) 500000 (startM Tryz.prog laidL 10 mr26.args c keyT)) = true := by decide +kernel
end Go.Proofs.YtpdgopgcodmilaaGreatDoor
