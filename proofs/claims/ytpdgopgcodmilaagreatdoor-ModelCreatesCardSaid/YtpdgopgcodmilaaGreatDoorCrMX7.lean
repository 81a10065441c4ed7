/- Rows that turn memory: runs by the evaluator, in the kernel, in every order. No conditions. -/
import Derived.Test.YtpdgopgcodmilaaGreatDoorCrH
namespace Go.Proofs.YtpdgopgcodmilaaGreatDoor
open Go.VM
set_option maxRecDepth 1000000 in
theorem mr63_ok : mr63.ok Tryz.prog laidL = true := by decide +kernel
set_option maxRecDepth 1000000 in
theorem mr63_run : (picks mr63.pre).all (fun c => @runF Tryz.prog hookA (covers mr63) 500000 (startM Tryz.prog laidL 10 mr63.args c keyT)) = true := by decide +kernel
set_option maxRecDepth 1000000 in
theorem mr64_ok : mr64.ok Tryz.prog laidL = true := by decide +kernel
set_option maxRecDepth 1000000 in
theorem mr64_run : (picks mr64.pre).all (fun c => @runF Tryz.prog hookA (covers mr64) 500000 (startM Tryz.prog laidL 10 mr64.args c keyT)) = true := by decide +kernel
set_option maxRecDepth 1000000 in
theorem mr65_ok : mr65.ok Tryz.prog laidL = true := by decide +kernel
set_option maxRecDepth 1000000 in
theorem mr65_run : (picks mr65.pre).all (fun c => @runF Tryz.prog hookA (covers mr65) 500000 (startM Tryz.prog laidL 10 mr65.args c keyT)) = true := by decide +kernel
set_option maxRecDepth 1000000 in
theorem mr66_ok : mr66.ok Tryz.prog laidL = true := by decide +kernel
set_option maxRecDepth 1000000 in
theorem mr66_run : (picks mr66.pre).all (fun c => @runF Tryz.prog hookA (covers mr66) 500000 (startM Tryz.prog laidL 10 mr66.args c keyT)) = true := by decide +kernel
set_option maxRecDepth 1000000 in
theorem mr67_ok : mr67.ok Tryz.prog laidL = true := by decide +kernel
set_option maxRecDepth 1000000 in
theorem mr67_run : (picks mr67.pre).all (fun c => @runF Tryz.prog hookA (covers mr67) 500000 (startM Tryz.prog laidL 10 mr67.args c keyT)) = true := by decide +kernel
set_option maxRecDepth 1000000 in
theorem mr68_ok : mr68.ok Tryz.prog laidL = true := by decide +kernel
set_option maxRecDepth 1000000 in
theorem mr68_run : (picks mr68.pre).all (fun c => @runF Tryz.prog hookA (covers mr68) 500000 (startM Tryz.prog laidL 10 mr68.args c keyT)) = true := by decide +kernel
set_option maxRecDepth 1000000 in
theorem mr69_ok : mr69.ok Tryz.prog laidL = true := by decide +kernel
set_option maxRecDepth 1000000 in
theorem mr69_run : (picks mr69.pre).all (fun c => @runF Tryz.prog hookA (covers mr69) 500000 (startM Tryz.prog laidL 10 mr69.args c keyT)) = true := by decide +kernel
set_option maxRecDepth 1000000 in
theorem mr70_ok : mr70.ok Tryz.prog laidL = true := by decide +kernel
set_option maxRecDepth 1000000 in
theorem mr70_run : (picks mr70.pre).all (fun c => @runF Tryz.prog hookA (covers mr70) 500000 (startM Tryz.prog laidL 10 mr70.args c keyT)) = true := by decide +kernel
set_option maxRecDepth 1000000 in
theorem mr71_ok : mr71.ok Tryz.prog laidL = true := by decide +kernel
set_option maxRecDepth 1000000 in
theorem mr71_run : (picks mr71.pre).all (fun c => @runF Tryz.prog hookA (covers mr71) 500000 (startM Tryz.prog laidL 10 mr71.args c keyT)) = true := by decide +kernel
end Go.Proofs.YtpdgopgcodmilaaGreatDoor
