/- Rows that turn memory: runs by the evaluator, in the kernel, in every order. No conditions. -/
import Derived.Test.YtocphdopmdiciaaGreatDoorTkH
namespace Go.Proofs.YtocphdopmdiciaaGreatDoor
open Go.VM
set_option maxRecDepth 1000000 in
theorem dr4_ok : dr4.ok Tryz.prog laidL = true := by decide +kernel
set_option maxRecDepth 1000000 in
theorem dr4_run : (picks dr4.pre).all (fun c => @runF Tryz.prog hookC (covers dr4) 500000 (startM Tryz.prog laidL 8 dr4.args c keyTw)) = true := by decide +kernel
set_option maxRecDepth 1000000 in
theorem dr5_ok : dr5.ok Tryz.prog laidL = true := by decide +kernel
set_option maxRecDepth 1000000 in
theorem dr5_run : (picks dr5.pre).all (fun c => @runF Tryz.prog hookC (covers dr5) 500000 (startM Tryz.prog laidL 8 dr5.args c keyTw)) = true := by decide +kernel
end Go.Proofs.YtocphdopmdiciaaGreatDoor
