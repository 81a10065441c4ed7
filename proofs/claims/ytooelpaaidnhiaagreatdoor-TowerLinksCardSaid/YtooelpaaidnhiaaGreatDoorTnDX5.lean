/- Rows that turn memory: runs by the evaluator, in the kernel, in every order. No conditions. -/
import Derived.Test.YtooelpaaidnhiaaGreatDoorTnH
namespace Go.Proofs.YtooelpaaidnhiaaGreatDoor
open Go.VM
theorem dw80_ok : QD dw80 := by decide +kernel
theorem dw81_ok : QD dw81 := by decide +kernel
theorem dw82_ok : QD dw82 := by decide +kernel
theorem dw83_ok : QD dw83 := by decide +kernel
theorem dw84_ok : QD dw84 := by decide +kernel
theorem dw85_ok : QD dw85 := by decide +kernel
theorem dw86_ok : QD dw86 := by decide +kernel
theorem dw87_ok : QD dw87 := by decide +kernel
theorem dw88_ok : QD dw88 := by decide +kernel
theorem dw89_ok : QD dw89 := by decide +kernel
theorem dw90_ok : QD dw90 := by decide +kernel
theorem dw91_ok : QD dw91 := by decide +kernel
theorem dw92_ok : QD dw92 := by decide +kernel
theorem dw93_ok : QD dw93 := by decide +kernel
theorem dw94_ok : QD dw94 := by decide +kernel
theorem dw95_ok : QD dw95 := by decide +kernel
end Go.Proofs.YtooelpaaidnhiaaGreatDoor
