/- Rows that turn memory: runs by the evaluator, in the kernel, in every order. No conditions. -/
import Derived.Test.YtocphdopmdiciaaGreatDoorTkH
namespace Go.Proofs.YtocphdopmdiciaaGreatDoor
open Go.VM
set_option maxRecDepth 1000000 in
theorem dr16_ok : dr16.ok Tryz.prog laidL = true := by decide +kernel
set_option maxRecDepth 1000000 in
theorem dr16_run : (picks dr16.pre).all (fun c => @runF Tryz.prog hookC (covers dr16) 500000 (startM Tryz.prog laidL 8 dr16.args c keyTw)) = true := by decide +kernel
set_option maxRecDepth 1000000 in
theorem dr17_ok : dr17.ok Tryz.prog laidL = true := by decide +kernel
set_option maxRecDepth 1000000 in
theorem dr17_run : (picks dr17.pre).all (fun c => @runF Tryz.prog hookC (covers dr17) 500000 (startM Tryz.prog laidL 8 dr17.args c keyTw)) = true := by decide +kernel
end Go.Proofs.YtocphdopmdiciaaGreatDoor
