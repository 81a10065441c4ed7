/- Rows that turn memory: runs by the evaluator, in the kernel, in every order. No conditions. -/
import Derived.Test.YtocphdopmdiciaaGreatDoorTkH
namespace Go.Proofs.YtocphdopmdiciaaGreatDoor
open Go.VM
set_option maxRecDepth 1000000 in
theorem tr40_ok : tr40.ok Tryz.prog laidL = true := by decide +kernel
set_option maxRecDepth 1000000 in
theorem tr40_run : (picks tr40.pre).all (fun c => @runF Tryz.prog hookA (covers tr40) 500000 (startM Tryz.prog laidL 125 tr40.args c keyTw)) = true := by decide +kernel
set_option maxRecDepth 1000000 in
theorem tr41_ok : tr41.ok Tryz.prog laidL = true := by decide +kernel
set_option maxRecDepth 1000000 in
theorem tr41_run : (picks tr41.pre).all (fun c => @runF Tryz.prog hookA (covers tr41) 500000 (startM Tryz.prog laidL 125 tr41.args c keyTw)) = true := by decide +kernel
set_option maxRecDepth 1000000 in
theorem tr42_ok : tr42.ok Tryz.prog laidL = true := by decide +kernel
set_option maxRecDepth 1000000 in
theorem tr42_run : (picks tr42.pre).all (fun c => @runF Tryz.prog hookA (covers tr42) 500000 (startM Tryz.prog laidL 125 tr42.args c keyTw)) = true := by decide +kernel
set_option maxRecDepth 1000000 in
theorem tr43_ok : tr43.ok Tryz.prog laidL = true := by decide +kernel
set_option maxRecDepth 1000000 in
theorem tr43_run : (picks tr43.pre).all (fun c => @runF Tryz.prog hookA (covers tr43) 500000 (startM Tryz.prog laidL 125 tr43.args c keyTw)) = true := by decide +kernel
set_option maxRecDepth 1000000 in
theorem tr44_ok : tr44.ok Tryz.prog laidL = true := by decide +kernel
set_option maxRecDepth 1000000 in
theorem tr44_run : (picks tr44.pre).all (fun c => @runF Tryz.prog hookA (covers tr44) 500000 (startM Tryz.prog laidL 125 tr44.args c keyTw)) = true := by decide +kernel
set_option maxRecDepth 1000000 in
theorem tr45_ok : tr45.ok Tryz.prog laidL = true := by decide +kernel
set_option maxRecDepth 1000000 in
theorem tr45_run : (picks tr45.pre).all (fun c => @runF Tryz.prog hookA (covers tr45) 500000 (startM Tryz.prog laidL 125 tr45.args c keyTw)) = true := by decide +kernel
end Go.Proofs.YtocphdopmdiciaaGreatDoor
