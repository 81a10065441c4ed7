/- Rows that turn memory: runs by the evaluator, in the kernel, in every order. No conditions. -/
import Derived.Test.YtndjamcbdcjleaaGreatDoorPtH
namespace Go.Proofs.YtndjamcbdcjleaaGreatDoor
open Go.VM
set_option maxRecDepth 1000000 in
theorem mr16_ok : mr16.ok Tryz.prog laidL = true := by decide +kernel
set_option maxRecDepth 1000000 in
theorem mr16_run : (picks mr16.pre).all (fun c => @runF Tryz.prog hookA (covers mr16) 500000 (startM Tryz.prog laidL 37 mr16.args c keyT)) = true := by decide +kernel
set_option maxRecDepth 1000000 in
theorem mr17_ok : mr17.ok Tryz.prog laidL = true := by decide +kernel
set_option maxRecDepth 1000000 in
theorem mr17_run : (picks mr17.pre).all (fun c => @runF Tryz.prog hookA (covers mr17) 500000 (startM Tryz.prog laidL 37 mr17.args c keyT)) = true := by decide +kernel
set_option maxRecDepth 1000000 in
theorem mr18_ok : mr18.ok Tryz.prog laidL = true := by decide +kernel
set_option maxRecDepth 1000000 in
theorem mr18_run : (picks mr18.pre).all (fun c => @runF Tryz.prog hookA (covers mr18) 500000 (startM Tryz.prog laidL 37 mr18.args c keyT)) = true := by decide +kernel
set_option maxRecDepth 1000000 in
theorem mr19_ok : mr19.ok Tryz.prog laidL = true := by decide +kernel
set_option maxRecDepth 1000000 in
theorem mr19_run : (picks mr19.pre).all (fun c => @runF Tryz.prog hookA (covers mr19) 500000 (startM Tryz.prog laidL 37 mr19.args c keyT)) = true := by decide +kernel
set_option maxRecDepth 1000000 in
theorem mr20_ok : mr20.ok Tryz.prog laidL = true := by decide +kernel
set_option maxRecDepth 1000000 in
theorem mr20_run : (picks mr20.pre).all (fun c => @runF Tryz.prog hookA (covers mr20) 500000 (startM Tryz.prog laidL 37 mr20.args c keyT)) = true := by decide +kernel
set_option maxRecDepth 1000000 in
theorem mr21_ok : mr21.ok Tryz.prog laidL = true := by decide +kernel
set_option maxRecDepth 1000000 in
theorem mr21_run : (picks mr21.pre).all (fun c => @runF Tryz.prog hookA (covers mr21) 500000 (startM Tryz.prog laidL 37 mr21.args c keyT)) = true := by decide +kernel
set_option maxRecDepth 1000000 in
theorem mr22_ok : mr22.ok Tryz.prog laidL = true := by decide +kernel
set_option maxRecDepth 1000000 in
theorem mr22_run : (picks mr22.pre).all (fun c => @runF Tryz.prog hookA (covers mr22) 500000 (startM Tryz.prog laidL 37 mr22.args c keyT)) = true := by decide +kernel
set_option maxRecDepth 1000000 in
theorem mr23_ok : mr23.ok Tryz.prog laidL = true := by decide +kernel
set_option maxRecDepth 1000000 in
theorem mr23_run : (picks mr23.pre).all (fun c => @runF Tryz.prog hookA (covers mr23) 500000 (startM Tryz.prog laidL 37 mr23.args c keyT)) = true := by decide +kernel
end Go.Proofs.YtndjamcbdcjleaaGreatDoor
