/- Rows that turn memory: runs by the evaluator, in the kernel, in every order. No conditions. -/
import Derived.Test.YtbblahphgmkgnaaGreatDoorTdH
namespace Go.Proofs.YtbblahphgmkgnaaGreatDoor
open Go.VM
theorem dw147_ok : QD dw147 := by decide +kernel
theorem dw148_ok : QD dw148 := by decide +kernel
theorem dw149_ok : QD dw149 := by decide +kernel
theorem dw150_ok : QD dw150 := by decide +kernel
theorem dw151_ok : QD dw151 := by decide +kernel
theorem dw152_ok : QD dw152 := by decide +kernel
theorem dw153_ok : QD dw153 := by decide +kernel
end Go.Proofs.YtbblahphgmkgnaaGreatDoor
