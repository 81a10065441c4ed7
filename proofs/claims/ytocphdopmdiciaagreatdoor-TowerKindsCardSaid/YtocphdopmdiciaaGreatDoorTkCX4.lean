/- Rows that turn memory: runs by the evaluator, in the kernel, in every order. No conditions. -/
import Derived.Test.YtocphdopmdiciaaGreatDoorTkH
namespace Go.Proofs.YtocphdopmdiciaaGreatDoor
open Go.VM
set_option maxRecDepth 1000000 in
theorem cr24_ok : cr24.ok Tryz.prog laidL = true := by decide +kernel
set_option maxRecDepth 1000000 in
theorem cr24_run : (picks cr24.pre).all (fun c => @runF Tryz.prog hookB (covers cr24) 500000 (startM Tryz.prog laidL 25 cr24.args c keyTw)) = true := by decide +kernel
set_option maxRecDepth 1000000 in
theorem cr25_ok : cr25.ok Tryz.prog laidL = true := by decide +kernel
set_option maxRecDepth 1000000 in
theorem cr25_run : (picks cr25.pre).all (fun c => @runF Tryz.prog hookB (covers cr25) 500000 (startM Tryz.prog laidL 25 cr25.args c keyTw)) = true := by decide +kernel
set_option maxRecDepth 1000000 in
theorem cr26_ok : cr26.ok Tryz.prog laidL = true := by decide +kernel
set_option maxRecDepth 1000000 in
theorem cr26_run : (picks cr26.pre).all (fun c => @runF Tryz.prog hookB (covers cr26) 500000 (startM Tryz.prog laidL 25 cr26.args c keyTw)) = true := by decide +kernel
end Go.Proofs.YtocphdopmdiciaaGreatDoor
