/- Rows that turn memory: runs by the evaluator, in the kernel, in every order. No conditions. -/
import Derived.Test.YtooelpaaidnhiaaGreatDoorTnH
namespace Go.Proofs.YtooelpaaidnhiaaGreatDoor
open Go.VM
theorem dw112_ok : QD dw112 := by decide +kernel
theorem dw113_ok : QD dw113 := by decide +kernel
theorem dw114_ok : QD dw114 := by decide +kernel
theorem dw115_ok : QD dw115 := by decide +kernel
theorem dw116_ok : QD dw116 := by decide +kernel
theorem dw117_ok : QD dw117 := by decide +kernel
theorem dw118_ok : QD dw118 := by decide +kernel
theorem dw119_ok : QD dw119 := by decide +kernel
theorem dw120_ok : QD dw120 := by decide +kernel
theorem dw121_ok : QD dw121 := by decide +kernel
theorem dw122_ok : QD dw122 := by decide +kernel
theorem dw123_ok : QD dw123 := by decide +kernel
theorem dw124_ok : QD dw124 := by decide +kernel
theorem dw125_ok : QD dw125 := by decide +kernel
theorem dw126_ok : QD dw126 := by decide +kernel
theorem dw127_ok : QD dw127 := by decide +kernel
end Go.Proofs.YtooelpaaidnhiaaGreatDoor
