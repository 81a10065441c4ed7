/- Rows that turn memory: runs by the evaluator, in the kernel, in every order. No conditions. -/
import Derived.Test.YtpdgopgcodmilaaGreatDoorCrH
namespace Go.Proofs.YtpdgopgcodmilaaGreatDoor
open Go.VM
set_option maxRecDepth 1000000 in
theorem mr0_ok : mr0.ok Tryz.prog laidL = true := by decide +kernel
set_option maxRecDepth 1000000 in
theorem mr0_run : (picks mr0.pre).all (fun c => @runF Tryz.prog hookA (covers mr0) 500000 (startM Tryz.prog laidL 10 mr0.args c keyT)) = true := by decide +kernel
set_option maxRecDepth 1000000 in
theorem mr1_ok : mr1.ok Tryz.prog laidL = true := by decide +kernel
set_option maxRecDepth 1000000 in
theorem mr1_run : (picks mr1.pre).all (fun c => @runF Tryz.prog hookA (covers mr1) 500000 (startM Tryz.prog laidL 10 mr1.args c keyT)) = true := by decide +kernel
set_option maxRecDepth 1000000 in
theorem mr2_ok : mr2.ok Tryz.prog laidL = true := by decide +kernel
set_option maxRecDepth 1000000 in
theorem mr2_run : (picks mr2.pre).all (fun c => @runF Tryz.prog hookA (covers mr2) 500000 (startM Tryz.prog laidL 10 mr2.args c keyT)) = true := by decide +kernel
set_option maxRecDepth 1000000 in
theorem mr3_ok : mr3.ok Tryz.prog laidL = true := by decide +kernel
set_option maxRecDepth 1000000 in
theorem mr3_run : (picks mr3.pre).all (fun c => @runF Tryz.prog hookA (covers mr3) 500000 (startM Tryz.prog laidL 10 mr3.args c keyT)) = true := by decide +kernel
set_option maxRecDepth 1000000 in
theorem mr4_ok : mr4.ok Tryz.prog laidL = true := by decide +kernel
set_option maxRecDepth 1000000 in
theorem mr4_run : (picks mr4.pre).all (fun c => @runF Tryz.prog hookA (covers mr4) 500000 (startM Tryz.prog laidL 10 mr4.args c keyT)) = true := by decide +kernel
set_option maxRecDepth 1000000 in
theorem mr5_ok : mr5.ok Tryz.prog laidL = true := by decide +kernel
set_option maxRecDepth 1000000 in
theorem mr5_run : (picks mr5.pre).all (fun c => @runF Tryz.prog hookA (covers mr5) 500000 (startM Tryz.prog laidL 10 mr5.args c keyT)) = true := by decide +kernel
set_option maxRecDepth 1000000 in
theorem mr6_ok : mr6.ok Tryz.prog laidL = true := by decide +kernel
set_option maxRecDepth 1000000 in
theorem mr6_run : (picks mr6.pre).all (fun c => @runF Tryz.prog hookA (covers mr6) 500000 (startM Tryz.prog laidL 10 mr6.args c keyT)) = true := by decide +kernel
set_option maxRecDepth 1000000 in
theorem mr7_ok : mr7.ok Tryz.prog laidL = true := by decide +kernel
set_option maxRecDepth 1000000 in
theorem mr7_run : (picks mr7.pre).all (fun c => @runF Tryz.prog hookA (covers mr7) 500000 (startM Tryz.prog laidL 10 mr7.args c keyT)) = true := by decide +kernel
set_option maxRecDepth 1000000 in
theorem mr8_ok : mr8.ok Tryz.prog laidL = true := by decide +kernel
set_option maxRecDepth 1000000 in
theorem mr8_run : (picks mr8.pre).all (fun c => @runF Tryz.prog hookA (covers mr8) 500000 (startM Tryz.prog laidL 10 mr8.args c keyT)) = true := by decide +kernel
end Go.Proofs.YtpdgopgcodmilaaGreatDoor
