/- Rows that turn memory: runs by the evaluator, in the kernel, in every order. No conditions. -/
import Derived.Test.YtooelpaaidnhiaaGreatDoorTnH
namespace Go.Proofs.YtooelpaaidnhiaaGreatDoor
open Go.VM
theorem dw176_ok : QD dw176 := by decide +kernel
theorem dw177_ok : QD dw177 := by decide +kernel
theorem dw178_ok : QD dw178 := by decide +kernel
theorem dw179_ok : QD dw179 := by decide +kernel
theorem dw180_ok : QD dw180 := by decide +kernel
theorem dw181_ok : QD dw181 := by decide +kernel
theorem dw182_ok : QD dw182 := by decide +kernel
theorem dw183_ok : QD dw183 := by decide +kernel
theorem dw184_ok : QD dw184 := by decide +kernel
theorem dw185_ok : QD dw185 := by decide +kernel
theorem dw186_ok : QD dw186 := by decide +kernel
theorem dw187_ok : QD dw187 := by decide +kernel
theorem dw188_ok : QD dw188 := by decide +kernel
theorem dw189_ok : QD dw189 := by decide +kernel
theorem dw190_ok : QD dw190 := by decide +kernel
theorem dw191_ok : QD dw191 := by decide +kernel
end Go.Proofs.YtooelpaaidnhiaaGreatDoor
