/- Rows that turn memory: runs by the evaluator, in the kernel, in every order. No conditions. -/
import Derived.Test.YtocphdopmdiciaaGreatDoorTkH
namespace Go.Proofs.YtocphdopmdiciaaGreatDoor
open Go.VM
set_option maxRecDepth 1000000 in
theorem cr12_ok : cr12.ok Tryz.prog laidL = true := by decide +kernel
set_option maxRecDepth 1000000 in
theorem cr12_run : (picks cr12.pre).all (fun c => @runF Tryz.prog hookB (covers cr12) 500000 (startM Tryz.prog laidL 25 cr12.args c keyTw)) = true := by decide +kernel
set_option maxRecDepth 1000000 in
theorem cr13_ok : cr13.ok Tryz.prog laidL = true := by decide +kernel
set_option maxRecDepth 1000000 in
theorem cr13_run : (picks cr13.pre).all (fun c => @runF Tryz.prog hookB (covers cr13) 500000 (startM Tryz.prog laidL 25 cr13.args c keyTw)) = true := by decide +kernel
set_option maxRecDepth 1000000 in
theorem cr14_ok : cr14.ok Tryz.prog laidL = true := by decide +kernel
set_option maxRecDepth 1000000 in
theorem cr14_run : (picks cr14.pre).all (fun c => @runF Tryz.prog hookB (covers cr14) 500000 (startM Tryz.prog laidL 25 cr14.args c keyTw)) = true := by decide +kernel
set_option maxRecDepth 1000000 in
theorem cr15_ok : cr15.ok Tryz.prog laidL = true := by decide +kernel
set_option maxRecDepth 1000000 in
theorem cr15_run : (picks cr15.pre).all (fun c => @runF Tryz.prog hookB (covers cr15) 500000 (startM Tryz.prog laidL 25 cr15.args c keyTw)) = true := by decide +kernel
set_option maxRecDepth 1000000 in
theorem cr16_ok : cr16.ok Tryz.prog laidL = true := by decide +kernel
set_option maxRecDepth 1000000 in
theorem cr16_run : (picks cr16.pre).all (fun c => @runF Tryz.prog hookB (covers cr16) 500000 (startM Tryz.prog laidL 25 cr16.args c keyTw)) = true := by decide +kernel
set_option maxRecDepth 1000000 in
theorem cr17_ok : cr17.ok Tryz.prog laidL = true := by decide +kernel
set_option maxRecDepth 1000000 in
theorem cr17_run : (picks cr17.pre).all (fun c => @runF Tryz.prog hookB (covers cr17) 500000 (startM Tryz.prog laidL 25 cr17.args c keyTw)) = true := by decide +kernel
end Go.Proofs.YtocphdopmdiciaaGreatDoor
