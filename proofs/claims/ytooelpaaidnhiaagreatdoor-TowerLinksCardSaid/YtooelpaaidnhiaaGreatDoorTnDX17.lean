/- Rows that turn memory: runs by the evaluator, in the kernel, in every order. No conditions. -/
import Derived.Test.YtooelpaaidnhiaaGreatDoorTnH
namespace Go.Proofs.YtooelpaaidnhiaaGreatDoor
open Go.VM
theorem dw272_ok : QD dw272 := by decide +kernel
theorem dw273_ok : QD dw273 := by decide +kernel
theorem dw274_ok : QD dw274 := by decide +kernel
theorem dw275_ok : QD dw275 := by decide +kernel
theorem dw276_ok : QD dw276 := by decide +kernel
theorem dw277_ok : QD dw277 := by decide +kernel
theorem dw278_ok : QD dw278 := by decide +kernel
theorem dw279_ok : QD dw279 := by decide +kernel
theorem dw280_ok : QD dw280 := by decide +kernel
theorem dw281_ok : QD dw281 := by decide +kernel
theorem dw282_ok : QD dw282 := by decide +kernel
theorem dw283_ok : QD dw283 := by decide +kernel
theorem dw284_ok : QD dw284 := by decide +kernel
theorem dw285_ok : QD dw285 := by decide +kernel
theorem dw286_ok : QD dw286 := by decide +kernel
theorem dw287_ok : QD dw287 := by decide +kernel
end Go.Proofs.YtooelpaaidnhiaaGreatDoor
