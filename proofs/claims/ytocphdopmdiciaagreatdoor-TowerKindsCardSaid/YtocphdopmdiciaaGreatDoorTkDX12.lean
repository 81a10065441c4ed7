/- Rows that turn memory: runs by the evaluator, in the kernel, in every order. No conditions. -/
import Derived.Test.YtocphdopmdiciaaGreatDoorTkH
namespace Go.Proofs.YtocphdopmdiciaaGreatDoor
open Go.VM
set_option maxRecDepth 1000000 in
theorem dr24_ok : dr24.ok Tryz.prog laidL = true := by decide +kernel
set_option maxRecDepth 1000000 in
theorem dr24_run : (picks dr24.pre).all (fun c => @runF Tryz.prog hookC (covers dr24) 500000 (startM Tryz.prog laidL 8 dr24.args c keyTw)) = true := by decide +kernel
set_option maxRecDepth 1000000 in
theorem dr25_ok : dr25.ok Tryz.prog laidL = true := by decide +kernel
set_option maxRecDepth 1000000 in
theorem dr25_run : (picks dr25.pre).all (fun c => @runF Tryz.prog hookC (covers dr25) 500000 (startM Tryz.prog laidL 8 dr25.args c keyTw)) = true := by decide +kernel
end Go.Proofs.YtocphdopmdiciaaGreatDoor
