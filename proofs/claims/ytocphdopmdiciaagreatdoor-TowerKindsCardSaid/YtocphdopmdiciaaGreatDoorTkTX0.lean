/- Rows that turn memory: runs by the evaluator, in the kernel, in every order. No conditions. -/
import Derived.Test.YtocphdopmdiciaaGreatDoorTkH
namespace Go.Proofs.YtocphdopmdiciaaGreatDoor
open Go.VM
set_option maxRecDepth 1000000 in
theorem tr0_ok : tr0.ok Tryz.prog laidL = true := by decide +kernel
set_option maxRecDepth 1000000 in
theorem tr0_run : (picks tr0.pre).all (fun c => @runF Tryz.prog hookA (covers tr0) 500000 (startM Tryz.prog laidL 125 tr0.args c keyTw)) = true := by decide +kernel
set_option maxRecDepth 1000000 in
theorem tr1_ok : tr1.ok Tryz.prog laidL = true := by decide +kernel
set_option maxRecDepth 1000000 in
theorem tr1_run : (picks tr1.pre).all (fun c => @runF Tryz.prog hookA (covers tr1) 500000 (startM Tryz.prog laidL 125 tr1.args c keyTw)) = true := by decide +kernel
set_option maxRecDepth 1000000 in
theorem tr2_ok : tr2.ok Tryz.prog laidL = true := by decide +kernel
set_option maxRecDepth 1000000 in
theorem tr2_run : (picks tr2.pre).all (fun c => @runF Tryz.prog hookA (covers tr2) 500000 (startM Tryz.prog laidL 125 tr2.args c keyTw)) = true := by decide +kernel
set_option maxRecDepth 1000000 in
theorem tr3_ok : tr3.ok Tryz.prog laidL = true := by decide +kernel
set_option maxRecDepth 1000000 in
theorem tr3_run : (picks tr3.pre).all (fun c => @runF Tryz.prog hookA (covers tr3) 500000 (startM Tryz.prog laidL 125 tr3.args c keyTw)) = true := by decide +kernel
set_option maxRecDepth 1000000 in
theorem tr4_ok : tr4.ok Tryz.prog laidL = true := by decide +kernel
set_option maxRecDepth 1000000 in
theorem tr4_run : (picks tr4.pre).all (fun c => @runF Tryz.prog hookA (covers tr4) 500000 (startM Tryz.prog laidL 125 tr4.args c keyTw)) = true := by decide +kernel
set_option maxRecDepth 1000000 in
theorem tr5_ok : tr5.ok Tryz.prog laidL = true := by decide +kernel
set_option maxRecDepth 1000000 in
theorem tr5_run : (picks tr5.pre).all (fun c => @runF Tryz.prog hookA (covers tr5) 500000 (startM Tryz.prog laidL 125 tr5.args c keyTw)) = true := by decide +kernel
set_option maxRecDepth 1000000 in
theorem tr6_ok : tr6.ok Tryz.prog laidL = true := by decide +kernel
set_option maxRecDepth 1000000 in
theorem tr6_run : (picks tr6.pre).all (fun c => @runF Tryz.prog hookA (covers tr6) 500000 (startM Tryz.prog laidL 125 tr6.args c keyTw)) = true := by decide +kernel
set_option maxRecDepth 1000000 in
theorem tr7_ok : tr7.ok Tryz.prog laidL = true := by decide +kernel
set_option maxRecDepth 1000000 in
theorem tr7_run : (picks tr7.pre).all (fun c => @runF Tryz.prog hookA (covers tr7) 500000 (startM Tryz.prog laidL 125 tr7.args c keyTw)) = true := by decide +kernel
end Go.Proofs.YtocphdopmdiciaaGreatDoor
