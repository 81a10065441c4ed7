/- Rows that turn memory: runs by the evaluator, in the kernel, in every order. No conditions. -/
import Derived.Test.YtooelpaaidnhiaaGreatDoorTnH
namespace Go.Proofs.YtooelpaaidnhiaaGreatDoor
open Go.VM
theorem dw16_ok : QD dw16 := by decide +kernel
theorem dw17_ok : QD dw17 := by decide +kernel
theorem dw18_ok : QD dw18 := by decide +kernel
theorem dw19_ok : QD dw19 := by decide +kernel
theorem dw20_ok : QD dw20 := by decide +kernel
theorem dw21_ok : QD dw21 := by decide +kernel
theorem dw22_ok : QD dw22 := by decide +kernel
theorem dw23_ok : QD dw23 := by decide +kernel
theorem dw24_ok : QD dw24 := by decide +kernel
theorem dw25_ok : QD dw25 := by decide +kernel
theorem dw26_ok : QD dw26 := by decide +kernel
theorem dw27_ok : QD dw27 := by decide +kernel
theorem dw28_ok : QD dw28 := by decide +kernel
theorem dw29_ok : QD dw29 := by decide +kernel
theorem dw30_ok : QD dw30 := by decide +kernel
theorem dw31_ok : QD dw31 := by decide +kernel
end Go.Proofs.YtooelpaaidnhiaaGreatDoor
