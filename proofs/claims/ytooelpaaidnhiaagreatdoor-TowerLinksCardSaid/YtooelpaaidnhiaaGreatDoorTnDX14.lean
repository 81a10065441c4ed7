/- Rows that turn memory: runs by the evaluator, in the kernel, in every order. No conditions. -/
import Derived.Test.YtooelpaaidnhiaaGreatDoorTnH
namespace Go.Proofs.YtooelpaaidnhiaaGreatDoor
open Go.VM
theorem dw224_ok : QD dw224 := by decide +kernel
theorem dw225_ok : QD dw225 := by decide +kernel
theorem dw226_ok : QD dw226 := by decide +kernel
theorem dw227_ok : QD dw227 := by decide +kernel
theorem dw228_ok : QD dw228 := by decide +kernel
theorem dw229_ok : QD dw229 := by decide +kernel
theorem dw230_ok : QD dw230 := by decide +kernel
theorem dw231_ok : QD dw231 := by decide +kernel
theorem dw232_ok : QD dw232 := by decide +kernel
theorem dw233_ok : QD dw233 := by decide +kernel
theorem dw234_ok : QD dw234 := by decide +kernel
theorem dw235_ok : QD dw235 := by decide +kernel
theorem dw236_ok : QD dw236 := by decide +kernel
theorem dw237_ok : QD dw237 := by decide +kernel
theorem dw238_ok : QD dw238 := by decide +kernel
theorem dw239_ok : QD dw239 := by decide +kernel
end Go.Proofs.YtooelpaaidnhiaaGreatDoor
