/- Rows that turn memory: runs by the evaluator, in the kernel, in every order. No conditions. -/
import Derived.Test.YtooelpaaidnhiaaGreatDoorTnH
namespace Go.Proofs.YtooelpaaidnhiaaGreatDoor
open Go.VM
theorem cw0_ok : QC cw0 := by decide +kernel
theorem cw1_ok : QC cw1 := by decide +kernel
theorem cw2_ok : QC cw2 := by decide +kernel
theorem cw3_ok : QC cw3 := by decide +kernel
theorem cw4_ok : QC cw4 := by decide +kernel
theorem cw5_ok : QC cw5 := by decide +kernel
theorem cw6_ok : QC cw6 := by decide +kernel
theorem cw7_ok : QC cw7 := by decide +kernel
theorem cw8_ok : QC cw8 := by decide +kernel
theorem cw9_ok : QC cw9 := by decide +kernel
theorem cw10_ok : QC cw10 := by decide +kernel
theorem cw11_ok : QC cw11 := by decide +kernel
theorem cw12_ok : QC cw12 := by decide +kernel
theorem cw13_ok : QC cw13 := by decide +kernel
theorem cw14_ok : QC cw14 := by decide +kernel
theorem cw15_ok : QC cw15 := by decide +kernel
end Go.Proofs.YtooelpaaidnhiaaGreatDoor
