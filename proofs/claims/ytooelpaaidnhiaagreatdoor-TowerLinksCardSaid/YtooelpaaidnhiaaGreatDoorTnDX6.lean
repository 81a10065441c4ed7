/- Rows that turn memory: runs by the evaluator, in the kernel, in every order. No conditions. -/
import Derived.Test.YtooelpaaidnhiaaGreatDoorTnH
namespace Go.Proofs.YtooelpaaidnhiaaGreatDoor
open Go.VM
theorem dw96_ok : QD dw96 := by decide +kernel
theorem dw97_ok : QD dw97 := by decide +kernel
theorem dw98_ok : QD dw98 := by decide +kernel
theorem dw99_ok : QD dw99 := by decide +kernel
theorem dw100_ok : QD dw100 := by decide +kernel
theorem dw101_ok : QD dw101 := by decide +kernel
theorem dw102_ok : QD dw102 := by decide +kernel
theorem dw103_ok : QD dw103 := by decide +kernel
theorem dw104_ok : QD dw104 := by decide +kernel
theorem dw105_ok : QD dw105 := by decide +kernel
theorem dw106_ok : QD dw106 := by decide +kernel
theorem dw107_ok : QD dw107 := by decide +kernel
theorem dw108_ok : QD dw108 := by decide +kernel
theorem dw109_ok : QD dw109 := by decide +kernel
theorem dw110_ok : QD dw110 := by decide +kernel
theorem dw111_ok : QD dw111 := by decide +kernel
end Go.Proofs.YtooelpaaidnhiaaGreatDoor
