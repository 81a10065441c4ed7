/- Rows that turn memory: runs by the evaluator, in the kernel, in every order. No conditions. -/
import Derived.Test.YtocphdopmdiciaaGreatDoorTkH
namespace Go.Proofs.YtocphdopmdiciaaGreatDoor
open Go.VM
set_option maxRecDepth 1000000 in
theorem dr8_ok : dr8.ok Tryz.prog laidL = true := by decide +kernel
set_option maxRecDepth 1000000 in
theorem dr8_run : (picks dr8.pre).all (fun c => @runF Tryz.prog hookC (covers dr8) 500000 (startM Tryz.prog laidL 8 dr8.args c keyTw)) = true := by decide +kernel
set_option maxRecDepth 1000000 in
theorem dr9_ok : dr9.ok Tryz.prog laidL = true := by decide +kernel
set_option maxRecDepth 1000000 in
theorem dr9_run : (picks dr9.pre).all (fun c => @runF Tryz.prog hookC (covers dr9) 500000 (startM Tryz.prog laidL 8 dr9.args c keyTw)) = true := by decide +kernel
end Go.Proofs.YtocphdopmdiciaaGreatDoor
