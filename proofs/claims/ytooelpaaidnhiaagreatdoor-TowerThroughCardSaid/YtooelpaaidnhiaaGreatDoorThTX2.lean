/- Rows that turn memory: runs by the evaluator, in the kernel, in every order. No conditions. -/
import Derived.Test.YtooelpaaidnhiaaGreatDoorThH
namespace Go.Proofs.YtooelpaaidnhiaaGreatDoor
open Go.VM
set_option maxRecDepth 1000000 in
theorem tw8_ok : QT tw8 := by decide +kernel
set_option maxRecDepth 1000000 in
theorem tw9_ok : QT tw9 := by decide +kernel
set_option maxRecDepth 1000000 in
theorem tw10_ok : QT tw10 := by decide +kernel
set_option maxRecDepth 1000000 in
theorem tw11_ok : QT tw11 := by decide +kernel
end Go.Proofs.YtooelpaaidnhiaaGreatDoor
