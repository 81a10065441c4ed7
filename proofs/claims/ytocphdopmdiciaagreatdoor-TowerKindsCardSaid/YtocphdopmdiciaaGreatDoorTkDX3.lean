/- Rows that turn memory: runs by the evaluator, in the kernel, in every order. No conditions. -/
import Derived.Test.YtocphdopmdiciaaGreatDoorTkH
namespace Go.Proofs.YtocphdopmdiciaaGreatDoor
open Go.VM
set_option maxRecDepth 1000000 in
theorem dr6_ok : dr6.ok Tryz.prog laidL = true := by decide +kernel
set_option maxRecDepth 1000000 in
theorem dr6_run : (picks dr6.pre).all (fun c => @runF Tryz.prog hookC (covers dr6) 500000 (startM Tryz.prog laidL 8 dr6.args c keyTw)) = true := by decide +kernel
set_option maxRecDepth 1000000 in
theorem dr7_ok : dr7.ok Tryz.prog laidL = true := by decide +kernel
set_option maxRecDepth 1000000 in
theorem dr7_run : (picks dr7.pre).all (fun c => @runF Tryz.prog hookC (covers dr7) 500000 (startM Tryz.prog laidL 8 dr7.args c keyTw)) = true := by decide +kernel
end Go.Proofs.YtocphdopmdiciaaGreatDoor
