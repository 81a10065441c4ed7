/- Rows that turn memory: runs by the evaluator, in the kernel, in every order. No conditions. -/
import Derived.Test.YtpdgopgcodmilaaGreatDoorCrH
namespace Go.Proofs.YtpdgopgcodmilaaGreatDoor
open Go.VM
set_option maxRecDepth 1000000 in
theorem mr45_ok : mr45.ok Tryz.prog laidL = true := by decide +kernel
set_option maxRecDepth 1000000 in
theorem mr45_run : (picks mr45.pre).all (fun c => @runF Tryz.prog hookA (covers mr45) 500000 (startM Tryz.prog laidL 10 mr45.args c keyT)) = true := by decide +kernel
set_option maxRecDepth 1000000 in
theorem mr46_ok : mr46.ok Tryz.prog laidL = true := by decide +kernel
set_option maxRecDepth 1000000 in
theorem mr46_run : (picks mr46.pre).all (fun c => @runF Tryz.prog hookA (covers mr46) 500000 (startM Tryz.prog laidL 10 mr46.args c keyT)) = true := by decide +kernel
set_option maxRecDepth 1000000 in
theorem mr47_ok : mr47.ok Tryz.prog laidL = true := by decide +kernel
set_option maxRecDepth 1000000 in
theorem mr47_run : (picks mr47.pre).all (fun c => @runF Tryz.prog hookA (covers mr47) 500000 (startM Tryz.prog laidL 10 mr47.args c keyT)) = true := by decide +kernel
set_option maxRecDepth 1000000 in
theorem mr48_ok : mr48.ok Tryz.prog laidL = true := by decide +kernel
set_option maxRecDepth 1000000 in
theorem mr48_run : (picks mr48.pre).all (fun c => @runF Tryz.prog hookA (covers mr48) 500000 (startM Tryz.prog laidL 10 mr48.args c keyT)) = true := by decide +kernel
set_option maxRecDepth 1000000 in
theorem mr49_ok : mr49.ok Tryz.prog laidL = true := by decide +kernel
set_option maxRecDepth 1000000 in
theorem mr49_run : (picks mr49.pre).all (fun c => @runF Tryz.prog hookA (covers mr49) 500000 (startM Tryz.prog laidL 10 mr49.args c keyT)) = true := by decide +kernel
set_option maxRecDepth 1000000 in
theorem mr50_ok : mr50.ok Tryz.prog laidL = true := by decide +kernel
set_option maxRecDepth 1000000 in
theorem mr50_run : (picks mr50.pre).all (fun c => @runF Tryz.prog hookA (covers mr50) 500000 (startM Tryz.prog laidL 10 mr50.args c keyT)) = true := by decide +kernel
set_option maxRecDepth 1000000 in
theorem mr51_ok : mr51.ok Tryz.prog laidL = true := by decide +kernel
set_option maxRecDepth 1000000 in
theorem mr51_run : (picks mr51.pre).all (fun c => @runF Tryz.prog hookA (covers mr51) 500000 (startM Tryz.prog laidL 10 mr51.args c keyT)) = true := by decide +kernel
set_option maxRecDepth 1000000 in
theorem mr52_ok : mr52.ok Tryz.prog laidL = true := by decide +kernel
set_option maxRecDepth 1000000 in
theorem mr52_run : (picks mr52.pre).all (fun c => @runF Tryz.prog hookA (covers mr52) 500000 (startM Tryz.prog laidL 10 mr52.args c keyT)) = true := by decide +kernel
set_option maxRecDepth 1000000 in
theorem mr53_ok : mr53.ok Tryz.prog laidL = true := by decide +kernel
set_option maxRecDepth 1000000 in
theorem mr53_run : (picks mr53.pre).all (fun c => @runF Tryz.prog hookA (covers mr53) 500000 (startM Tryz.prog laidL 10 mr53.args c keyT)) = true := by decide +kernel
end Go.Proofs.YtpdgopgcodmilaaGreatDoor
