/- Rows that turn memory: runs by the evaluator, in the kernel, in every order. No conditions. -/
import Derived.Test.YtocphdopmdiciaaGreatDoorTkH
namespace Go.Proofs.YtocphdopmdiciaaGreatDoor
open Go.VM
set_option maxRecDepth 1000000 in
theorem dr22_ok : dr22.ok Tryz.prog laidL = true := by decide +kernel
set_option maxRecDepth 1000000 in
theorem dr22_run : (picks dr22.pre).all (fun c => @runF Tryz.prog hookC (covers dr22) 500000 (startM Tryz.prog laidL 8 dr22.args c keyTw)) = true := by decide +kernel
set_option maxRecDepth 1000000 in
theorem dr23_ok : dr23.ok Tryz.prog laidL = true := by decide +kernel
set_option maxRecDepth 1000000 in
theorem dr23_run : (picks dr23.pre).all (fun c => @runF Tryz.prog hookC (covers dr23) 500000 (startM Tryz.prog laidL 8 dr23.args c keyTw)) = true := by decide +kernel
end Go.Proofs.YtocphdopmdiciaaGreatDoor
