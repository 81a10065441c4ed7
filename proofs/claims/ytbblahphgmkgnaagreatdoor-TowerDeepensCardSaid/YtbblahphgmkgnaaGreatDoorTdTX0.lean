/- Rows that turn memory: runs by the evaluator, in the kernel, in every order. No conditions. -/
import Derived.Test.YtbblahphgmkgnaaGreatDoorTdH
namespace Go.Proofs.YtbblahphgmkgnaaGreatDoor
open Go.VM
theorem tw0_ok : QT tw0 := by decide +kernel
theorem tw1_ok : QT tw1 := by decide +kernel
theorem tw2_ok : QT tw2 := by decide +kernel
theorem tw3_ok : QT tw3 := by decide +kernel
theorem tw4_ok : QT tw4 := by decide +kernel
theorem tw5_ok : QT tw5 := by decide +kernel
theorem tw6_ok : QT tw6 := by decide +kernel
end Go.Proofs.YtbblahphgmkgnaaGreatDoor
