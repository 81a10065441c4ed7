/- Rows that turn memory: runs by the evaluator, in the kernel, in every order. No conditions. -/
import Derived.Test.YtocphdopmdiciaaGreatDoorTkH
namespace Go.Proofs.YtocphdopmdiciaaGreatDoor
open Go.VM
set_option maxRecDepth 1000000 in
theorem tr16_ok : tr16.ok Tryz.prog laidL = true := by decide +kernel
set_option maxRecDepth 1000000 in
theorem tr16_run : (picks tr16.pre).all (fun c => @runF Tryz.prog hookA (covers tr16) 500000 (startM Tryz.prog laidL 125 tr16.args c keyTw)) = true := by decide +kernel
set_option maxRecDepth 1000000 in
theorem tr17_ok : tr17.ok Tryz.prog laidL = true := by decide +kernel
set_option maxRecDepth 1000000 in
theorem tr17_run : (picks tr17.pre).all (fun c => @runF Tryz.prog hookA (covers tr17) 500000 (startM Tryz.prog laidL 125 tr17.args c keyTw)) = true := by decide +kernel
set_option maxRecDepth 1000000 in
theorem tr18_ok : tr18.ok Tryz.prog laidL = true := by decide +kernel
set_option maxRecDepth 1000000 in
theorem tr18_run : (picks tr18.pre).all (fun c => @runF Tryz.prog hookA (covers tr18) 500000 (startM Tryz.prog laidL 125 tr18.args c keyTw)) = true := by decide +kernel
set_option maxRecDepth 1000000 in
theorem tr19_ok : tr19.ok Tryz.prog laidL = true := by decide +kernel
set_option maxRecDepth 1000000 in
theorem tr19_run : (picks tr19.pre).all (fun c => @runF Tryz.prog hookA (covers tr19) 500000 (startM Tryz.prog laidL 125 tr19.args c keyTw)) = true := by decide +kernel
set_option maxRecDepth 1000000 in
theorem tr20_ok : tr20.ok Tryz.prog laidL = true := by decide +kernel
set_option maxRecDepth 1000000 in
theorem tr20_run : (picks tr20.pre).all (fun c => @runF Tryz.prog hookA (covers tr20) 500000 (startM Tryz.prog laidL 125 tr20.args c keyTw)) = true := by decide +kernel
set_option maxRecDepth 1000000 in
theorem tr21_ok : tr21.ok Tryz.prog laidL = true := by decide +kernel
set_option maxRecDepth 1000000 in
theorem tr21_run : (picks tr21.pre).all (fun c => @runF Tryz.prog hookA (covers tr21) 500000 (startM Tryz.prog laidL 125 tr21.args c keyTw)) = true := by decide +kernel
set_option maxRecDepth 1000000 in
theorem tr22_ok : tr22.ok Tryz.prog laidL = true := by decide +kernel
set_option maxRecDepth 1000000 in
theorem tr22_run : (picks tr22.pre).all (fun c => @runF Tryz.prog hookA (covers tr22) 500000 (startM Tryz.prog laidL 125 tr22.args c keyTw)) = true := by decide +kernel
set_option maxRecDepth 1000000 in
theorem tr23_ok : tr23.ok Tryz.prog laidL = true := by decide +kernel
set_option maxRecDepth 1000000 in
theorem tr23_run : (picks tr23.pre).all (fun c => @runF Tryz.prog hookA (covers tr23) 500000 (startM Tryz.prog laidL 125 tr23.args c keyTw)) = true := by decide +kernel
end Go.Proofs.YtocphdopmdiciaaGreatDoor
