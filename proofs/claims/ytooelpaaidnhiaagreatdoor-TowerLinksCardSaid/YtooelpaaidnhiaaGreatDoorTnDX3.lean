/- Rows that turn memory: runs by the evaluator, in the kernel, in every order. No conditions. -/
import Derived.Test.YtooelpaaidnhiaaGreatDoorTnH
namespace Go.Proofs.YtooelpaaidnhiaaGreatDoor
open Go.VM
theorem dw48_ok : QD dw48 := by decide +kernel
theorem dw49_ok : QD dw49 := by decide +kernel
theorem dw50_ok : QD dw50 := by decide +kernel
theorem dw51_ok : QD dw51 := by decide +kernel
theorem dw52_ok : QD dw52 := by decide +kernel
theorem dw53_ok : QD dw53 := by decide +kernel
theorem dw54_ok : QD dw54 := by decide +kernel
theorem dw55_ok : QD dw55 := by decide +kernel
theorem dw56_ok : QD dw56 := by decide +kernel
theorem dw57_ok : QD dw57 := by decide +kernel
theorem dw58_ok : QD dw58 := by decide +kernel
theorem dw59_ok : QD dw59 := by decide +kernel
theorem dw60_ok : QD dw60 := by decide +kernel
theorem dw61_ok : QD dw61 := by decide +kernel
theorem dw62_ok : QD dw62 := by decide +kernel
theorem dw63_ok : QD dw63 := by decide +kernel
end Go.Proofs.YtooelpaaidnhiaaGreatDoor
