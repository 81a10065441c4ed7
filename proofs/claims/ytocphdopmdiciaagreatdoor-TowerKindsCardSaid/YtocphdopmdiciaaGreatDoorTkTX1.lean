/- Rows that turn memory: runs by the evaluator, in the kernel, in every order. No conditions. -/
import Derived.Test.YtocphdopmdiciaaGreatDoorTkH
namespace Go.Proofs.YtocphdopmdiciaaGreatDoor
open Go.VM
set_option maxRecDepth 1000000 in
theorem tr8_ok : tr8.ok Tryz.prog laidL = true := by decide +kernel
set_option maxRecDepth 1000000 in
theorem tr8_run : (picks tr8.pre).all (fun c => @runF Tryz.prog hookA (covers tr8) 500000 (startM Tryz.prog laidL 125 tr8.args c keyTw)) = true := by decide +kernel
set_option maxRecDepth 1000000 in
theorem tr9_ok : tr9.ok Tryz.prog laidL = true := by decide +kernel
set_option maxRecDepth 1000000 in
theorem tr9_run : (picks tr9.pre).all (fun c => @runF Tryz.prog hookA (covers tr9) 500000 (startM Tryz.prog laidL 125 tr9.args c keyTw)) = true := by decide +kernel
set_option maxRecDepth 1000000 in
theorem tr10_ok : tr10.ok Tryz.prog laidL = true := by decide +kernel
set_option maxRecDepth 1000000 in
theorem tr10_run : (picks tr10.pre).all (fun c => @runF Tryz.prog hookA (covers tr10) 500000 (startM Tryz.prog laidL 125 tr10.args c keyTw)) = true := by decide +kernel
set_option maxRecDepth 1000000 in
theorem tr11_ok : tr11.ok Tryz.prog laidL = true := by decide +kernel
set_option maxRecDepth 1000000 in
theorem tr11_run : (picks tr11.pre).all (fun c => @runF Tryz.prog hookA (covers tr11) 500000 (startM Tryz.prog laidL 125 tr11.args c keyTw)) = true := by decide +kernel
set_option maxRecDepth 1000000 in
theorem tr12_ok : tr12.ok Tryz.prog laidL = true := by decide +kernel
set_option maxRecDepth 1000000 in
theorem tr12_run : (picks tr12.pre).all (fun c => @runF Tryz.prog hookA (covers tr12) 500000 (startM Tryz.prog laidL 125 tr12.args c keyTw)) = true := by decide +kernel
set_option maxRecDepth 1000000 in
theorem tr13_ok : tr13.ok Tryz.prog laidL = true := by decide +kernel
set_option maxRecDepth 1000000 in
theorem tr13_run : (picks tr13.pre).all (fun c => @runF Tryz.prog hookA (covers tr13) 500000 (startM Tryz.prog laidL 125 tr13.args c keyTw)) = true := by decide +kernel
set_option maxRecDepth 1000000 in
theorem tr14_ok : tr14.ok Tryz.prog laidL = true := by decide +kernel
set_option maxRecDepth 1000000 in
theorem tr14_run : (picks tr14.pre).all (fun c => @runF Tryz.prog hookA (covers tr14) 500000 (startM Tryz.prog laidL 125 tr14.args c keyTw)) = true := by decide +kernel
set_option maxRecDepth 1000000 in
theorem tr15_ok : tr15.ok Tryz.prog laidL = true := by decide +kernel
set_option maxRecDepth 1000000 in
theorem tr15_run : (picks tr15.pre).all (fun c => @runF Tryz.prog hookA (covers tr15) 500000 (startM Tryz.prog laidL 125 tr15.args c keyTw)) = true := by decide +kernel
end Go.Proofs.YtocphdopmdiciaaGreatDoor
