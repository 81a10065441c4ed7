/- Rows that turn memory: runs by the evaluator, in the kernel, in every order. No conditions. -/
import Derived.Test.YtpdgopgcodmilaaGreatDoorCrH
namespace Go.Proofs.YtpdgopgcodmilaaGreatDoor
open Go.VM
set_option maxRecDepth 1000000 in
theorem mr90_ok : mr90.ok Tryz.prog laidL = true := by decide +kernel
set_option maxRecDepth 1000000 in
theorem mr90_run : (picks mr90.pre).all (fun c => @runF Tryz.prog hookA (covers mr90) 500000 (startM Tryz.prog laidL 10 mr90.args c keyT)) = true := by decide +kernel
set_option maxRecDepth 1000000 in
theorem mr91_ok : mr91.ok Tryz.prog laidL = true := by decide +kernel
set_option maxRecDepth 1000000 in
theorem mr91_run : (picks mr91.pre).all (fun c => @runF Tryz.prog hookA (covers mr91) 500000 (startM Tryz.prog laidL 10 mr91.args c keyT)) = true := by decide +kernel
set_option maxRecDepth 1000000 in
theorem mr92_ok : mr92.ok Tryz.prog laidL = true := by decide +kernel
set_option maxRecDepth 1000000 in
theorem mr92_run : (picks mr92.pre).all (fun c => @runF Tryz.prog hookA (covers mr92) 500000 (startM Tryz.prog laidL 10 mr92.args c keyT)) = true := by decide +kernel
set_option maxRecDepth 1000000 in
theorem mr93_ok : mr93.ok Tryz.prog laidL = true := by decide +kernel
set_option maxRecDepth 1000000 in
theorem mr93_run : (picks mr93.pre).all (fun c => @runF Tryz.prog hookA (covers mr93) 500000 (startM Tryz.prog laidL 10 mr93.args c keyT)) = true := by decide +kernel
set_option maxRecDepth 1000000 in
theorem mr94_ok : mr94.ok Tryz.prog laidL = true := by decide +kernel
set_option maxRecDepth 1000000 in
theorem mr94_run : (picks mr94.pre).all (fun c => @runF Tryz.prog hookA (covers mr94) 500000 (startM Tryz.prog laidL 10 mr94.args c keyT)) = true := by decide +kernel
set_option maxRecDepth 1000000 in
theorem mr95_ok : mr95.ok Tryz.prog laidL = true := by decide +kernel
set_option maxRecDepth 1000000 in
theorem mr95_run : (picks mr95.pre).all (fun c => @runF Tryz.prog hookA (covers mr95) 500000 (startM Tryz.prog laidL 10 mr95.args c keyT)) = true := by decide +kernel
set_option maxRecDepth 1000000 in
theorem mr96_ok : mr96.ok Tryz.prog laidL = true := by decide +kernel
set_option maxRecDepth 1000000 in
theorem mr96_run : (picks mr96.pre).all (fun c => @runF Tryz.prog hookA (covers mr96) 500000 (startM Tryz.prog laidL 10 mr96.args c keyT)) = true := by decide +kernel
set_option maxRecDepth 1000000 in
theorem mr97_ok : mr97.ok Tryz.prog laidL = true := by decide +kernel
set_option maxRecDepth 1000000 in
theorem mr97_run : (picks mr97.pre).all (fun c => @runF Tryz.prog hookA (covers mr97) 500000 (startM Tryz.prog laidL 10 mr97.args c keyT)) = true := by decide +kernel
set_option maxRecDepth 1000000 in
theorem mr98_ok : mr98.ok Tryz.prog laidL = true := by decide +kernel
set_option maxRecDepth 1000000 in
theorem mr98_run : (picks mr98.pre).all (fun c => @runF Tryz.prog hookA (covers mr98) 500000 (startM Tryz.prog laidL 10 mr98.args c keyT)) = true := by decide +kernel
end Go.Proofs.YtpdgopgcodmilaaGreatDoor
