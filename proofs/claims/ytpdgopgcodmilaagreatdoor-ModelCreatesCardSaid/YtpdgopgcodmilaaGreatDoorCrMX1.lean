/- Rows that turn memory: runs by the evaluator, in the kernel, in every order. No conditions. -/
import Derived.Test.YtpdgopgcodmilaaGreatDoorCrH
namespace Go.Proofs.YtpdgopgcodmilaaGreatDoor
open Go.VM
set_option maxRecDepth 1000000 in
theorem mr9_ok : mr9.ok Tryz.prog laidL = true := by decide +kernel
set_option maxRecDepth 1000000 in
theorem mr9_run : (picks mr9.pre).all (fun c => @runF Tryz.prog hookA (covers mr9) 500000 (startM Tryz.prog laidL 10 mr9.args c keyT)) = true := by decide +kernel
set_option maxRecDepth 1000000 in
theorem mr10_ok : mr10.ok Tryz.prog laidL = true := by decide +kernel
set_option maxRecDepth 1000000 in
theorem mr10_run : (picks mr10.pre).all (fun c => @runF Tryz.prog hookA (covers mr10) 500000 (startM Tryz.prog laidL 10 mr10.args c keyT)) = true := by decide +kernel
set_option maxRecDepth 1000000 in
theorem mr11_ok : mr11.ok Tryz.prog laidL = true := by decide +kernel
set_option maxRecDepth 1000000 in
theorem mr11_run : (picks mr11.pre).all (fun c => @runF Tryz.prog hookA (covers mr11) 500000 (startM Tryz.prog laidL 10 mr11.args c keyT)) = true := by decide +kernel
set_option maxRecDepth 1000000 in
theorem mr12_ok : mr12.ok Tryz.prog laidL = true := by decide +kernel
set_option maxRecDepth 1000000 in
theorem mr12_run : (picks mr12.pre).all (fun c => @runF Tryz.prog hookA (covers mr12) 500000 (startM Tryz.prog laidL 10 mr12.args c keyT)) = true := by decide +kernel
set_option maxRecDepth 1000000 in
theorem mr13_ok : mr13.ok Tryz.prog laidL = true := by decide +kernel
set_option maxRecDepth 1000000 in
theorem mr13_run : (picks mr13.pre).all (fun c => @runF Tryz.prog hookA (covers mr13) 500000 (startM Tryz.prog laidL 10 mr13.args c keyT)) = true := by decide +kernel
set_option maxRecDepth 1000000 in
theorem mr14_ok : mr14.ok Tryz.prog laidL = true := by decide +kernel
set_option maxRecDepth 1000000 in
theorem mr14_run : (picks mr14.pre).all (fun c => @runF Tryz.prog hookA (covers mr14) 500000 (startM Tryz.prog laidL 10 mr14.args c keyT)) = true := by decide +kernel
set_option maxRecDepth 1000000 in
theorem mr15_ok : mr15.ok Tryz.prog laidL = true := by decide +kernel
set_option maxRecDepth 1000000 in
theorem mr15_run : (picks mr15.pre).all (fun c => @runF Tryz.prog hookA (covers mr15) 500000 (startM Tryz.prog laidL 10 mr15.args c keyT)) = true := by decide +kernel
set_option maxRecDepth 1000000 in
theorem mr16_ok : mr16.ok Tryz.prog laidL = true := by decide +kernel
set_option maxRecDepth 1000000 in
theorem mr16_run : (picks mr16.pre).all (fun c => @runF Tryz.prog hookA (covers mr16) 500000 (startM Tryz.prog laidL 10 mr16.args c keyT)) = true := by decide +kernel
set_option maxRecDepth 1000000 in
theorem mr17_ok : mr17.ok Tryz.prog laidL = true := by decide +kernel
set_option maxRecDepth 1000000 in
theorem mr17_run : (picks mr17.pre).all (fun c => @runF Tryz.prog hookA (covers mr17) 500000 (startM Tryz.prog laidL 10 mr17.args c keyT)) = true := by decide +kernel
end Go.Proofs.YtpdgopgcodmilaaGreatDoor
