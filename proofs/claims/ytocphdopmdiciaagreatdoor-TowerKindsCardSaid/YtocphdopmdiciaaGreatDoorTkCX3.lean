/- Rows that turn memory: runs by the evaluator, in the kernel, in every order. No conditions. -/
import Derived.Test.YtocphdopmdiciaaGreatDoorTkH
namespace Go.Proofs.YtocphdopmdiciaaGreatDoor
open Go.VM
set_option maxRecDepth 1000000 in
theorem cr18_ok : cr18.ok Tryz.prog laidL = true := by decide +kernel
set_option maxRecDepth 1000000 in
theorem cr18_run : (picks cr18.pre).all (fun c => @runF Tryz.prog hookB (covers cr18) 500000 (startM Tryz.prog laidL 25 cr18.args c keyTw)) = true := by decide +kernel
set_option maxRecDepth 1000000 in
theorem cr19_ok : cr19.ok Tryz.prog laidL = true := by decide +kernel
set_option maxRecDepth 1000000 in
theorem cr19_run : (picks cr19.pre).all (fun c => @runF Tryz.prog hookB (covers cr19) 500000 (startM Tryz.prog laidL 25 cr19.args c keyTw)) = true := by decide +kernel
set_option maxRecDepth 1000000 in
theorem cr20_ok : cr20.ok Tryz.prog laidL = true := by decide +kernel
set_option maxRecDepth 1000000 in
theorem cr20_run : (picks cr20.pre).all (fun c => @runF Tryz.prog hookB (covers cr20) 500000 (startM Tryz.prog laidL 25 cr20.args c keyTw)) = true := by decide +kernel
set_option maxRecDepth 1000000 in
theorem cr21_ok : cr21.ok Tryz.prog laidL = true := by decide +kernel
set_option maxRecDepth 1000000 in
theorem cr21_run : (picks cr21.pre).all (fun c => @runF Tryz.prog hookB (covers cr21) 500000 (startM Tryz.prog laidL 25 cr21.args c keyTw)) = true := by decide +kernel
set_option maxRecDepth 1000000 in
theorem cr22_ok : cr22.ok Tryz.prog laidL = true := by decide +kernel
set_option maxRecDepth 1000000 in
theorem cr22_run : (picks cr22.pre).all (fun c => @runF Tryz.prog hookB (covers cr22) 500000 (startM Tryz.prog laidL 25 cr22.args c keyTw)) = true := by decide +kernel
set_option maxRecDepth 1000000 in
theorem cr23_ok : cr23.ok Tryz.prog laidL = true := by decide +kernel
set_option maxRecDepth 1000000 in
theorem cr23_run : (picks cr23.pre).all (fun c => @runF Tryz.prog hookB (covers cr23) 500000 (startM Tryz.prog laidL 25 cr23.args c keyTw)) = true := by decide +kernel
end Go.Proofs.YtocphdopmdiciaaGreatDoor
