/- Rows that turn memory: runs by the evaluator, in the kernel, in every order. No conditions. -/
import Derived.Test.YtooelpaaidnhiaaGreatDoorTnH
namespace Go.Proofs.YtooelpaaidnhiaaGreatDoor
open Go.VM
theorem cw32_ok : QC cw32 := by decide +kernel
theorem cw33_ok : QC cw33 := by decide +kernel
theorem cw34_ok : QC cw34 := by decide +kernel
theorem cw35_ok : QC cw35 := by decide +kernel
theorem cw36_ok : QC cw36 := by decide +kernel
theorem cw37_ok : QC cw37 := by decide +kernel
theorem cw38_ok : QC cw38 := by decide +kernel
theorem cw39_ok : QC cw39 := by decide +kernel
theorem cw40_ok : QC cw40 := by decide +kernel
end Go.Proofs.YtooelpaaidnhiaaGreatDoor
