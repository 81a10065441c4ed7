/- Rows that turn memory: runs by the evaluator, in the kernel, in every order. No conditions. -/
import Derived.Test.YtpdgopgcodmilaaGreatDoorCrH
namespace Go.Proofs.YtpdgopgcodmilaaGreatDoor
open Go.VM
set_option maxRecDepth 1000000 in
theorem mr27_ok : mr27.ok Tryz.prog laidL = true := by decide +kernel
set_option maxRecDepth 1000000 in
theorem mr27_run : (picks mr27.pre).all (fun c => @runF Tryz.prog hookA (covers mr27) 500000 (startM Tryz.prog laidL 10 mr27.args c keyT)) = true := by decide +kernel
set_option maxRecDepth 1000000 in
theorem mr28_ok : mr28.ok Tryz.prog laidL = true := by decide +kernel
set_option maxRecDepth 1000000 in
theorem mr28_run : (picks mr28.pre).all (fun c => @runF Tryz.prog hookA (covers mr28) 500000 (startM Tryz.prog laidL 10 mr28.args c keyT)) = true := by decide +kernel
set_option maxRecDepth 1000000 in
theorem mr29_ok : mr29.ok Tryz.prog laidL = true := by decide +kernel
set_option maxRecDepth 1000000 in
theorem mr29_run : (picks mr29.pre).all (fun c => @runF Tryz.prog hookA (covers mr29) 500000 (startM Tryz.prog laidL 10 mr29.args c keyT)) = true := by decide +kernel
set_option maxRecDepth 1000000 in
theorem mr30_ok : mr30.ok Tryz.prog laidL = true := by decide +kernel
set_option maxRecDepth 1000000 in
theorem mr30_run : (picks mr30.pre).all (fun c => @runF Tryz.prog hookA (covers mr30) 500000 (startM Tryz.prog laidL 10 mr30.args c keyT)) = true := by decide +kernel
set_option maxRecDepth 1000000 in
theorem mr31_ok : mr31.ok Tryz.prog laidL = true := by decide +kernel
set_option maxRecDepth 1000000 in
theorem mr31_run : (picks mr31.pre).all (fun c => @runF Tryz.prog hookA (covers mr31) 500000 (startM Tryz.prog laidL 10 mr31.args c keyT)) = true := by decide +kernel
set_option maxRecDepth 1000000 in
theorem mr32_ok : mr32.ok Tryz.prog laidL = true := by decide +kernel
set_option maxRecDepth 1000000 in
theorem mr32_run : (picks mr32.pre).all (fun c => @runF Tryz.prog hookA (covers mr32) 500000 (startM Tryz.prog laidL 10 mr32.args c keyT)) = true := by decide +kernel
set_option maxRecDepth 1000000 in
theorem mr33_ok : mr33.ok Tryz.prog laidL = true := by decide +kernel
set_option maxRecDepth 1000000 in
theorem mr33_run : (picks mr33.pre).all (fun c => @runF Tryz.prog hookA (covers mr33) 500000 (startM Tryz.prog laidL 10 mr33.args c keyT)) = true := by decide +kernel
set_option maxRecDepth 1000000 in
theorem mr34_ok : mr34.ok Tryz.prog laidL = true := by decide +kernel
set_option maxRecDepth 1000000 in
theorem mr34_run : (picks mr34.pre).all (fun c => @runF Tryz.prog hookA (covers mr34) 500000 (startM Tryz.prog laidL 10 mr34.args c keyT)) = true := by decide +kernel
set_option maxRecDepth 1000000 in
theorem mr35_ok : mr35.ok Tryz.prog laidL = true := by decide +kernel
set_option maxRecDepth 1000000 in
theorem mr35_run : (picks mr35.pre).all (fun c => @runF Tryz.prog hookA (covers mr35) 500000 (startM Tryz.prog laidL 10 mr35.args c keyT)) = true := by decide +kernel
end Go.Proofs.YtpdgopgcodmilaaGreatDoor
