/- Rows that turn memory: runs by the evaluator, in the kernel, in every order. No conditions. -/
import Derived.Test.YtocphdopmdiciaaGreatDoorTkH
namespace Go.Proofs.YtocphdopmdiciaaGreatDoor
open Go.VM
set_option maxRecDepth 1000000 in
theorem dr26_ok : dr26.ok Tryz.prog laidL = true := by decide +kernel
set_option maxRecDepth 1000000 in
theorem dr26_run : (picks dr26.pre).all (fun c => @runF Tryz.prog hookC (covers dr26) 500000 (startM Tryz.prog laidL 8 dr26.args c keyTw)) = true := by decide +kernel
set_option maxRecDepth 1000000 in
theorem dr27_ok : dr27.ok Tryz.prog laidL = true := by decide +kernel
set_option maxRecDepth 1000000 in
theorem dr27_run : (picks dr27.pre).all (fun c => @runF Tryz.prog hookC (covers dr27) 500000 (startM Tryz.prog laidL 8 dr27.args c keyTw)) = true := by decide +kernel
end Go.Proofs.YtocphdopmdiciaaGreatDoor
