/- Rows that turn memory: runs by the evaluator, in the kernel, in every order. No conditions. -/
import Derived.Test.YtocphdopmdiciaaGreatDoorTkH
namespace Go.Proofs.YtocphdopmdiciaaGreatDoor
open Go.VM
set_option maxRecDepth 1000000 in
theorem dr14_ok : dr14.ok Tryz.prog laidL = true := by decide +kernel
set_option maxRecDepth 1000000 in
theorem dr14_run : (picks dr14.pre).all (fun c => @runF Tryz.prog hookC (covers dr14) 500000 (startM Tryz.prog laidL 8 dr14.args c keyTw)) = true := by decide +kernel
set_option maxRecDepth 1000000 in
theorem dr15_ok : dr15.ok Tryz.prog laidL = true := by decide +kernel
set_option maxRecDepth 1000000 in
theorem dr15_run : (picks dr15.pre).all (fun c => @runF Tryz.prog hookC (covers dr15) 500000 (startM Tryz.prog laidL 8 dr15.args c keyTw)) = true := by decide +kernel
end Go.Proofs.YtocphdopmdiciaaGreatDoor
