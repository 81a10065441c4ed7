/- Rows that turn memory: runs by the evaluator, in the kernel, in every order. No conditions. -/
import Derived.Test.YtndjamcbdcjleaaGreatDoorPtH
namespace Go.Proofs.YtndjamcbdcjleaaGreatDoor
open Go.VM
set_option maxRecDepth 1000000 in
theorem mr24_ok : mr24.ok Tryz.prog laidL = true := by decide +kernel
set_option maxRecDepth 1000000 in
theorem mr24_run : (picks mr24.pre).all (fun c => @runF Tryz.prog hookA (covers mr24) 500000 (startM Tryz.prog laidL 37 mr24.args c keyT)) = true := by decide +kernel
set_option maxRecDepth 1000000 in
theorem mr25_ok : mr25.ok Tryz.prog laidL = true := by decide +kernel
set_option maxRecDepth 1000000 in
theorem mr25_run : (picks mr25.pre).all (fun c => @runF Tryz.prog hookA (covers mr25) 500000 (startM Tryz.prog laidL 37 mr25.args c keyT)) = true := by decide +kernel
set_option maxRecDepth 1000000 in
theorem mr26_ok : mr26.ok Tryz.prog laidL = true := by decide +kernel
set_option maxRecDepth 1000000 in
theorem mr26_run : (picks mr26.pre).all (fun c => @runF Tryz.prog hookA (covers mr26) 500000 (startM Tryz.prog laidL 37 mr26.args c keyT)) = true := by decide +kernel
set_option maxRecDepth 1000000 in
theorem mr27_ok : mr27.ok Tryz.prog laidL = true := by decide +kernel
set_option maxRecDepth 1000000 in
theorem mr27_run : (picks mr27.pre).all (fun c => @runF Tryz.prog hookA (covers mr27) 500000 (startM Tryz.prog laidL 37 mr27.args c keyT)) = true := by decide +kernel
set_option maxRecDepth 1000000 in
theorem mr28_ok : mr28.ok Tryz.prog laidL = true := by decide +kernel
set_option maxRecDepth 1000000 in
theorem mr28_run : (picks mr28.pre).all (fun c => @runF Tryz.prog hookA (covers mr28) 500000 (startM Tryz.prog laidL 37 mr28.args c keyT)) = true := by decide +kernel
set_option maxRecDepth 1000000 in
theorem mr29_ok : mr29.ok Tryz.prog laidL = true := by decide +kernel
set_option maxRecDepth 1000000 in
theorem mr29_run : (picks mr29.pre).all (fun c => @runF Tryz.prog hookA (covers mr29) 500000 (startM Tryz.prog laidL 37 mr29.args c keyT)) = true := by decide +kernel
set_option maxRecDepth 1000000 in
theorem mr30_ok : mr30.ok Tryz.prog laidL = true := by decide +kernel
set_option maxRecDepth 1000000 in
theorem mr30_run : (picks mr30.pre).all (fun c => @runF Tryz.prog hookA (covers mr30) 500000 (startM Tryz.prog laidL 37 mr30.args c keyT)) = true := by decide +kernel
set_option maxRecDepth 1000000 in
theorem mr31_ok : mr31.ok Tryz.prog laidL = true := by decide +kernel
set_option maxRecDepth 1000000 in
theorem mr31_run : (picks mr31.pre).all (fun c => @runF Tryz.prog hookA (covers mr31) 500000 (startM Tryz.prog laidL 37 mr31.args c keyT)) = true := by decide +kernel
end Go.Proofs.YtndjamcbdcjleaaGreatDoor
