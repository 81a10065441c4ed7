/- Rows that turn memory: runs by the evaluator, in the kernel, in every order. No conditions. -/
import Derived.Test.YtooelpaaidnhiaaGreatDoorThH
namespace Go.Proofs.YtooelpaaidnhiaaGreatDoor
open Go.VM
set_option maxRecDepth 1000000 in
theorem tw0_ok : QT tw0 := by decide +kernel
set_option maxRecDepth 1000000 in
theorem tw1_ok : QT tw1 := by decide +kernel
set_option maxRecDepth 1000000 in
theorem tw2_ok : QT tw2 := by decide +kernel
set_option maxRecDepth 1000000 in
theorem tw3_ok : QT tw3 := by decide +kernel
end Go.Proofs.YtooelpaaidnhiaaGreatDoor
