/- Rows that turn memory: runs by the evaluator, in the kernel, in every order. No conditions. -/
import Derived.Test.YtocphdopmdiciaaGreatDoorTkH
namespace Go.Proofs.YtocphdopmdiciaaGreatDoor
open Go.VM
set_option maxRecDepth 1000000 in
theorem dr12_ok : dr12.ok Tryz.prog laidL = true := by decide +kernel
set_option maxRecDepth 1000000 in
theorem dr12_run : (picks dr12.pre).all (fun c => @runF Tryz.prog hookC (covers dr12) 500000 (startM Tryz.prog laidL 8 dr12.args c keyTw)) = true := by decide +kernel
set_option maxRecDepth 1000000 in
theorem dr13_ok : dr13.ok Tryz.prog laidL = true := by decide +kernel
set_option maxRecDepth 1000000 in
theorem dr13_run : (picks dr13.pre).all (fun c => @runF Tryz.prog hookC (covers dr13) 500000 (startM Tryz.prog laidL 8 dr13.args c keyTw)) = true := by decide +kernel
end Go.Proofs.YtocphdopmdiciaaGreatDoor
