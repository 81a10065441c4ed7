/- Rows that turn memory: runs by the evaluator, in the kernel, in every order. No conditions. -/
import Derived.Test.YtocphdopmdiciaaGreatDoorTkH
namespace Go.Proofs.YtocphdopmdiciaaGreatDoor
open Go.VM
set_option maxRecDepth 1000000 in
theorem nr1_ok : nr1.ok Tryz.prog laidL = true := by decide +kernel
set_option maxRecDepth 1000000 in
theorem nr1_run : (picks nr1.pre).all (fun c => @runF Tryz.prog hookC (covers nr1) 500000 (startM Tryz.prog laidL 7 nr1.args c keyTw)) = true := by decide +kernel
end Go.Proofs.YtocphdopmdiciaaGreatDoor
