/- Rows that turn memory: runs by the evaluator, in the kernel, in every order. No conditions. -/
import Derived.Test.YtdkbfimccddikaaGreatDoorTdH
namespace Go.Proofs.YtdkbfimccddikaaGreatDoor
open Go.VM
theorem dw45_ok : QD dw45 := by decide +kernel
theorem dw46_ok : QD dw46 := by decide +kernel
theorem dw47_ok : QD dw47 := by decide +kernel
theorem dw48_ok : QD dw48 := by decide +kernel
theorem dw49_ok : QD dw49 := by decide +kernel
theorem dw50_ok : QD dw50 := by decide +kernel
theorem dw51_ok : QD dw51 := by decide +kernel
theorem dw52_ok : QD dw52 := by decide +kernel
theorem dw53_ok : QD dw53 := by decide +kernel
end Go.Proofs.YtdkbfimccddikaaGreatDoor
