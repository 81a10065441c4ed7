/- Rows that turn memory: runs by the evaluator, in the kernel, in every order. No conditions. -/
import Derived.Test.YtocphdopmdiciaaGreatDoorTkH
namespace Go.Proofs.YtocphdopmdiciaaGreatDoor
open Go.VM
set_option maxRecDepth 1000000 in
theorem cr6_ok : cr6.ok Tryz.prog laidL = true := by decide +kernel
set_option maxRecDepth 1000000 in
theorem cr6_run : (picks cr6.pre).all (fun c => @runF Tryz.prog hookB (covers cr6) 500000 (startM Tryz.prog laidL 25 cr6.args c keyTw)) = true := by decide +kernel
set_option maxRecDepth 1000000 in
theorem cr7_ok : cr7.ok Tryz.prog laidL = true := by decide +kernel
set_option maxRecDepth 1000000 in
theorem cr7_run : (picks cr7.pre).all (fun c => @runF Tryz.prog hookB (covers cr7) 500000 (startM Tryz.prog laidL 25 cr7.args c keyTw)) = true := by decide +kernel
set_option maxRecDepth 1000000 in
theorem cr8_ok : cr8.ok Tryz.prog laidL = true := by decide +kernel
set_option maxRecDepth 1000000 in
theorem cr8_run : (picks cr8.pre).all (fun c => @runF Tryz.prog hookB (covers cr8) 500000 (startM Tryz.prog laidL 25 cr8.args c keyTw)) = true := by decide +kernel
set_option maxRecDepth 1000000 in
theorem cr9_ok : cr9.ok Tryz.prog laidL = true := by decide +kernel
set_option maxRecDepth 1000000 in
theorem cr9_run : (picks cr9.pre).all (fun c => @runF Tryz.prog hookB (covers cr9) 500000 (startM Tryz.prog laidL 25 cr9.args c keyTw)) = true := by decide +kernel
set_option maxRecDepth 1000000 in
theorem cr10_ok : cr10.ok Tryz.prog laidL = true := by decide +kernel
set_option maxRecDepth 1000000 in
theorem cr10_run : (picks cr10.pre).all (fun c => @runF Tryz.prog hookB (covers cr10) 500000 (startM Tryz.prog laidL 25 cr10.args c keyTw)) = true := by decide +kernel
set_option maxRecDepth 1000000 in
theorem cr11_ok : cr11.ok Tryz.prog laidL = true := by decide +kernel
set_option maxRecDepth 1000000 in
theorem cr11_run : (picks cr11.pre).all (fun c => @runF Tryz.prog hookB (covers cr11) 500000 (startM Tryz.prog laidL 25 cr11.args c keyTw)) = true := by decide +kernel
end Go.Proofs.YtocphdopmdiciaaGreatDoor
