/- Rows that turn memory: runs by the evaluator, in the kernel, in every order. No conditions. -/
import Derived.Test.YtocphdopmdiciaaGreatDoorTkH
namespace Go.Proofs.YtocphdopmdiciaaGreatDoor
open Go.VM
set_option maxRecDepth 1000000 in
theorem dr18_ok : dr18.ok Tryz.prog laidL = true := by decide +kernel
set_option maxRecDepth 1000000 in
theorem dr18_run : (picks dr18.pre).all (fun c => @runF Tryz.prog hookC (covers dr18) 500000 (startM Tryz.prog laidL 8 dr18.args c keyTw)) = true := by decide +kernel
set_option maxRecDepth 1000000 in
theorem dr19_ok : dr19.ok Tryz.prog laidL = true := by decide +kernel
set_option maxRecDepth 1000000 in
theorem dr19_run : (picks dr19.pre).all (fun c => @runF Tryz.prog hookC (covers dr19) 500000 (startM Tryz.prog laidL 8 dr19.args c keyTw)) = true := by decide +kernel
end Go.Proofs.YtocphdopmdiciaaGreatDoor
