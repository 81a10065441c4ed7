/- Rows that turn memory: runs by the evaluator, in the kernel, in every order. No conditions. -/
import Derived.Test.YtdkbfimccddikaaGreatDoorTdH
namespace Go.Proofs.YtdkbfimccddikaaGreatDoor
open Go.VM
theorem dw18_ok : QD dw18 := by decide +kernel
theorem dw19_ok : QD dw19 := by decide +kernel
theorem dw20_ok : QD dw20 := by decide +kernel
theorem dw21_ok : QD dw21 := by decide +kernel
theorem dw22_ok : QD dw22 := by decide +kernel
theorem dw23_ok : QD dw23 := by decide +kernel
theorem dw24_ok : QD dw24 := by decide +kernel
theorem dw25_ok : QD dw25 := by decide +kernel
theorem dw26_ok : QD dw26 := by decide +kernel
end Go.Proofs.YtdkbfimccddikaaGreatDoor
