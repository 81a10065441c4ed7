/- Rows that turn memory: runs by the evaluator, in the kernel, in every order. No conditions. -/
import Derived.Test.YtooelpaaidnhiaaGreatDoorTnH
namespace Go.Proofs.YtooelpaaidnhiaaGreatDoor
open Go.VM
theorem dw192_ok : QD dw192 := by decide +kernel
theorem dw193_ok : QD dw193 := by decide +kernel
theorem dw194_ok : QD dw194 := by decide +kernel
theorem dw195_ok : QD dw195 := by decide +kernel
theorem dw196_ok : QD dw196 := by decide +kernel
theorem dw197_ok : QD dw197 := by decide +kernel
theorem dw198_ok : QD dw198 := by decide +kernel
theorem dw199_ok : QD dw199 := by decide +kernel
theorem dw200_ok : QD dw200 := by decide +kernel
theorem dw201_ok : QD dw201 := by decide +kernel
theorem dw202_ok : QD dw202 := by decide +kernel
theorem dw203_ok : QD dw203 := by decide +kernel
theorem dw204_ok : QD dw204 := by decide +kernel
theorem dw205_ok : QD dw205 := by decide +kernel
theorem dw206_ok : QD dw206 := by decide +kernel
theorem dw207_ok : QD dw207 := by decide +kernel
end Go.Proofs.YtooelpaaidnhiaaGreatDoor
