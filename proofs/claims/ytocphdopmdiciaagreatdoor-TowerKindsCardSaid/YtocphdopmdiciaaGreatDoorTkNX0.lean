/- Rows that turn memory: runs by the evaluator, in the kernel, in every order. No conditions. -/
import Derived.Test.YtocphdopmdiciaaGreatDoorTkH
namespace Go.Proofs.YtocphdopmdiciaaGreatDoor
open Go.VM
set_option maxRecDepth 1000000 in
theorem nr0_ok : nr0.ok Tryz.prog laidL = true := by decide +kernel
set_option maxRecDepth 1000000 in
theorem nr0_run : (picks nr0.pre).all (fun c => @runF Tryz.prog hookC (covers nr0) 500000 (startM Tryz.prog laidL 7 nr0.args c keyTw)) = true := by decide +kernel
end Go.Proofs.YtocphdopmdiciaaGreatDoor
