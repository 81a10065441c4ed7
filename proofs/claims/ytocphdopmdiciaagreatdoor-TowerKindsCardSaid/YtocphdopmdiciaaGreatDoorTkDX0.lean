/- Rows that turn memory: runs by the evaluator, in the kernel, in every order. No conditions. -/
import Derived.Test.YtocphdopmdiciaaGreatDoorTkH
namespace Go.Proofs.YtocphdopmdiciaaGreatDoor
open Go.VM
set_option maxRecDepth 1000000 in
theorem dr0_ok : dr0.ok Tryz.prog laidL = true := by decide +kernel
set_option maxRecDepth 1000000 in
theorem dr0_run : (picks dr0.pre).all (fun c => @runF Tryz.prog hookC (covers dr0) 500000 (startM Tryz.prog laidL 8 dr0.args c keyTw)) = true := by decide +kernel
set_option maxRecDepth 1000000 in
theorem dr1_ok : dr1.ok Tryz.prog laidL = true := by decide +kernel
set_option maxRecDepth 1000000 in
theorem dr1_run : (picks dr1.pre).all (fun c => @runF Tryz.prog hookC (covers dr1) 500000 (startM Tryz.prog laidL 8 dr1.args c keyTw)) = true := by decide +kernel
end Go.Proofs.YtocphdopmdiciaaGreatDoor
