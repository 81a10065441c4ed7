/- Rows that turn memory: runs by the evaluator, in the kernel, in every order. No conditions. -/
import Derived.Test.YtooelpaaidnhiaaGreatDoorTnH
namespace Go.Proofs.YtooelpaaidnhiaaGreatDoor
open Go.VM
theorem dw240_ok : QD dw240 := by decide +kernel
theorem dw241_ok : QD dw241 := by decide +kernel
theorem dw242_ok : QD dw242 := by decide +kernel
theorem dw243_ok : QD dw243 := by decide +kernel
theorem dw244_ok : QD dw244 := by decide +kernel
theorem dw245_ok : QD dw245 := by decide +kernel
theorem dw246_ok : QD dw246 := by decide +kernel
theorem dw247_ok : QD dw247 := by decide +kernel
theorem dw248_ok : QD dw248 := by decide +kernel
theorem dw249_ok : QD dw249 := by decide +kernel
theorem dw250_ok : QD dw250 := by decide +kernel
theorem dw251_ok : QD dw251 := by decide +kernel
theorem dw252_ok : QD dw252 := by decide +kernel
theorem dw253_ok : QD dw253 := by decide +kernel
theorem dw254_ok : QD dw254 := by decide +kernel
theorem dw255_ok : QD dw255 := by decide +kernel
end Go.Proofs.YtooelpaaidnhiaaGreatDoor
