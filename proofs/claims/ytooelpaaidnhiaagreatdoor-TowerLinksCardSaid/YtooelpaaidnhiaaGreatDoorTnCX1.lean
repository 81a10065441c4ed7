/- Rows that turn memory: runs by the evaluator, in the kernel, in every order. No conditions. -/
import Derived.Test.YtooelpaaidnhiaaGreatDoorTnH
namespace Go.Proofs.YtooelpaaidnhiaaGreatDoor
open Go.VM
theorem cw16_ok : QC cw16 := by decide +kernel
theorem cw17_ok : QC cw17 := by decide +kernel
theorem cw18_ok : QC cw18 := by decide +kernel
theorem cw19_ok : QC cw19 := by decide +kernel
theorem cw20_ok : QC cw20 := by decide +kernel
theorem cw21_ok : QC cw21 := by decide +kernel
theorem cw22_ok : QC cw22 := by decide +kernel
theorem cw23_ok : QC cw23 := by decide +kernel
theorem cw24_ok : QC cw24 := by decide +kernel
theorem cw25_ok : QC cw25 := by decide +kernel
theorem cw26_ok : QC cw26 := by decide +kernel
theorem cw27_ok : QC cw27 := by decide +kernel
theorem cw28_ok : QC cw28 := by decide +kernel
theorem cw29_ok : QC cw29 := by decide +kernel
theorem cw30_ok : QC cw30 := by decide +kernel
theorem cw31_ok : QC cw31 := by decide +kernel
end Go.Proofs.YtooelpaaidnhiaaGreatDoor
