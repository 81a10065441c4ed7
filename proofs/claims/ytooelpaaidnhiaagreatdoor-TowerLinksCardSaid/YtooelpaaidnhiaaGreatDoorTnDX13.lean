/- Rows that turn memory: runs by the evaluator, in the kernel, in every order. No conditions. -/
import Derived.Test.YtooelpaaidnhiaaGreatDoorTnH
namespace Go.Proofs.YtooelpaaidnhiaaGreatDoor
open Go.VM
theorem dw208_ok : QD dw208 := by decide +kernel
theorem dw209_ok : QD dw209 := by decide +kernel
theorem dw210_ok : QD dw210 := by decide +kernel
theorem dw211_ok : QD dw211 := by decide +kernel
theorem dw212_ok : QD dw212 := by decide +kernel
theorem dw213_ok : QD dw213 := by decide +kernel
theorem dw214_ok : QD dw214 := by decide +kernel
theorem dw215_ok : QD dw215 := by decide +kernel
theorem dw216_ok : QD dw216 := by decide +kernel
theorem dw217_ok : QD dw217 := by decide +kernel
theorem dw218_ok : QD dw218 := by decide +kernel
theorem dw219_ok : QD dw219 := by decide +kernel
theorem dw220_ok : QD dw220 := by decide +kernel
theorem dw221_ok : QD dw221 := by decide +kernel
theorem dw222_ok : QD dw222 := by decide +kernel
theorem dw223_ok : QD dw223 := by decide +kernel
end Go.Proofs.YtooelpaaidnhiaaGreatDoor
