/- Rows that turn memory: runs by the evaluator, in the kernel, in every order. No conditions. -/
import Derived.Test.YtocphdopmdiciaaGreatDoorTkH
namespace Go.Proofs.YtocphdopmdiciaaGreatDoor
open Go.VM
set_option maxRecDepth 1000000 in
theorem dr10_ok : dr10.ok Tryz.prog laidL = true := by decide +kernel
set_option maxRecDepth 1000000 in
theorem dr10_run : (picks dr10.pre).all (fun c => @runF Tryz.prog hookC (covers dr10) 500000 (startM Tryz.prog laidL 8 dr10.args c keyTw)) = true := by decide +kernel
set_option maxRecDepth 1000000 in
theorem dr11_ok : dr11.ok Tryz.prog laidL = true := by decide +kernel
set_option maxRecDepth 1000000 in
theorem dr11_run : (picks dr11.pre).all (fun c => @runF Tryz.prog hookC (covers dr11) 500000 (startM Tryz.prog laidL 8 dr11.args c keyTw)) = true := by decide +kernel
end Go.Proofs.YtocphdopmdiciaaGreatDoor
