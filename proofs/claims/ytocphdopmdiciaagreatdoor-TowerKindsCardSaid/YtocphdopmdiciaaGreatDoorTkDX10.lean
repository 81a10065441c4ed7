/- Rows that turn memory: runs by the evaluator, in the kernel, in every order. No conditions. -/
import Derived.Test.YtocphdopmdiciaaGreatDoorTkH
namespace Go.Proofs.YtocphdopmdiciaaGreatDoor
open Go.VM
set_option maxRecDepth 1000000 in
theorem dr20_ok : dr20.ok Tryz.prog laidL = true := by decide +kernel
set_option maxRecDepth 1000000 in
theorem dr20_run : (picks dr20.pre).all (fun c => @runF Tryz.prog hookC (covers dr20) 500000 (startM Tryz.prog laidL 8 dr20.args c keyTw)) = true := by decide +kernel
set_option maxRecDepth 1000000 in
theorem dr21_ok : dr21.ok Tryz.prog laidL = true := by decide +kernel
set_option maxRecDepth 1000000 in
theorem dr21_run : (picks dr21.pre).all (fun c => @runF Tryz.prog hookC (covers dr21) 500000 (startM Tryz.prog laidL 8 dr21.args c keyTw)) = true := by decide +kernel
end Go.Proofs.YtocphdopmdiciaaGreatDoor
