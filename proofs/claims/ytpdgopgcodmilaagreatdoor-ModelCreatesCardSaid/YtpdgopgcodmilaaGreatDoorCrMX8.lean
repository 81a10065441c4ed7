/- Rows that turn memory: runs by the evaluator, in the kernel, in every order. No conditions. -/
import Derived.Test.YtpdgopgcodmilaaGreatDoorCrH
namespace Go.Proofs.YtpdgopgcodmilaaGreatDoor
open Go.VM
set_option maxRecDepth 1000000 in
theorem mr72_ok : mr72.ok Tryz.prog laidL = true := by decide +kernel
set_option maxRecDepth 1000000 in
theorem mr72_run : (picks mr72.pre).all (fun c => @runF Tryz.prog hookA (covers mr72) 500000 (startM Tryz.prog laidL 10 mr72.args c keyT)) = true := by decide +kernel
set_option maxRecDepth 1000000 in
theorem mr73_ok : mr73.ok Tryz.prog laidL = true := by decide +kernel
set_option maxRecDepth 1000000 in
theorem mr73_run : (picks mr73.pre).all (fun c => @runF Tryz.prog hookA (covers mr73) 500000 (startM Tryz.prog laidL 10 mr73.args c keyT)) = true := by decide +kernel
set_option maxRecDepth 1000000 in
theorem mr74_ok : mr74.ok Tryz.prog laidL = true := by decide +kernel
set_option maxRecDepth 1000000 in
theorem mr74_run : (picks mr74.pre).all (fun c => @runF Tryz.prog hookA (covers mr74) 500000 (startM Tryz.prog laidL 10 mr74.args c keyT)) = true := by decide +kernel
set_option maxRecDepth 1000000 in
theorem mr75_ok : mr75.ok Tryz.prog laidL = true := by decide +kernel
set_option maxRecDepth 1000000 in
theorem mr75_run : (picks mr75.pre).all (fun c => @runF Tryz.prog hookA (covers mr75) 500000 (startM Tryz.prog laidL 10 mr75.args c keyT)) = true := by decide +kernel
set_option maxRecDepth 1000000 in
theorem mr76_ok : mr76.ok Tryz.prog laidL = true := by decide +kernel
set_option maxRecDepth 1000000 in
theorem mr76_run : (picks mr76.pre).all (fun c => @runF Tryz.prog hookA (covers mr76) 500000 (startM Tryz.prog laidL 10 mr76.args c keyT)) = true := by decide +kernel
set_option maxRecDepth 1000000 in
theorem mr77_ok : mr77.ok Tryz.prog laidL = true := by decide +kernel
set_option maxRecDepth 1000000 in
theorem mr77_run : (picks mr77.pre).all (fun c => @runF Tryz.prog hookA (covers mr77) 500000 (startM Tryz.prog laidL 10 mr77.args c keyT)) = true := by decide +kernel
set_option maxRecDepth 1000000 in
theorem mr78_ok : mr78.ok Tryz.prog laidL = true := by decide +kernel
set_option maxRecDepth 1000000 in
theorem mr78_run : (picks mr78.pre).all (fun c => @runF Tryz.prog hookA (covers mr78) 500000 (startM Tryz.prog laidL 10 mr78.args c keyT)) = true := by decide +kernel
set_option maxRecDepth 1000000 in
theorem mr79_ok : mr79.ok Tryz.prog laidL = true := by decide +kernel
set_option maxRecDepth 1000000 in
theorem mr79_run : (picks mr79.pre).all (fun c => @runF Tryz.prog hookA (covers mr79) 500000 (startM Tryz.prog laidL 10 mr79.args c keyT)) = true := by decide +kernel
set_option maxRecDepth 1000000 in
theorem mr80_ok : mr80.ok Tryz.prog laidL = true := by decide +kernel
set_option maxRecDepth 1000000 in
theorem mr80_run : (picks mr80.pre).all (fun c => @runF Tryz.prog hookA (covers mr80) 500000 (startM Tryz.prog laidL 10 mr80.args c keyT)) = true := by decide +kernel
end Go.Proofs.YtpdgopgcodmilaaGreatDoor
