/- Rows that turn memory: runs by the evaluator, in the kernel, in every order. No conditions. -/
import Derived.Test.YtocphdopmdiciaaGreatDoorTkH
namespace Go.Proofs.YtocphdopmdiciaaGreatDoor
open Go.VM
set_option maxRecDepth 1000000 in
theorem dr2_ok : dr2.ok Tryz.prog laidL = true := by decide +kernel
set_option maxRecDepth 1000000 in
theorem dr2_run : (picks dr2.pre).all (fun c => @runF Tryz.prog hookC (covers dr2) 500000 (startM Tryz.prog laidL 8 dr2.args c keyTw)) = true := by decide +kernel
set_option maxRecDepth 1000000 in
theorem dr3_ok : dr3.ok Tryz.prog laidL = true := by decide +kernel
set_option maxRecDepth 1000000 in
theorem dr3_run : (picks dr3.pre).all (fun c => @runF Tryz.prog hookC (covers dr3) 500000 (startM Tryz.prog laidL 8 dr3.args c keyTw)) = true := by decide +kernel
end Go.Proofs.YtocphdopmdiciaaGreatDoor
