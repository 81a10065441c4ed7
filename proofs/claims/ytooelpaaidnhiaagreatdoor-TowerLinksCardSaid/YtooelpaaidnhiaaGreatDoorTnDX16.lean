/- Rows that turn memory: runs by the evaluator, in the kernel, in every order. No conditions. -/
import Derived.Test.YtooelpaaidnhiaaGreatDoorTnH
namespace Go.Proofs.YtooelpaaidnhiaaGreatDoor
open Go.VM
theorem dw256_ok : QD dw256 := by decide +kernel
theorem dw257_ok : QD dw257 := by decide +kernel
theorem dw258_ok : QD dw258 := by decide +kernel
theorem dw259_ok : QD dw259 := by decide +kernel
theorem dw260_ok : QD dw260 := by decide +kernel
theorem dw261_ok : QD dw261 := by decide +kernel
theorem dw262_ok : QD dw262 := by decide +kernel
theorem dw263_ok : QD dw263 := by decide +kernel
theorem dw264_ok : QD dw264 := by decide +kernel
theorem dw265_ok : QD dw265 := by decide +kernel
theorem dw266_ok : QD dw266 := by decide +kernel
theorem dw267_ok : QD dw267 := by decide +kernel
theorem dw268_ok : QD dw268 := by decide +kernel
theorem dw269_ok : QD dw269 := by decide +kernel
theorem dw270_ok : QD dw270 := by decide +kernel
theorem dw271_ok : QD dw271 := by decide +kernel
end Go.Proofs.YtooelpaaidnhiaaGreatDoor
