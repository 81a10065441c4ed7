/- Rows that turn memory: runs by the evaluator, in the kernel, in every order. No conditions. -/
import Derived.Test.YtbblahphgmkgnaaGreatDoorTdH
namespace Go.Proofs.YtbblahphgmkgnaaGreatDoor
open Go.VM
theorem cw16_ok : QC cw16 := by decide +kernel
theorem cw17_ok : QC cw17 := by decide +kernel
theorem cw18_ok : QC cw18 := by decide +kernel
theorem cw19_ok : QC cw19 := by decide +kernel
theorem cw20_ok : QC cw20 := by decide +kernel
theorem cw21_ok : QC cw21 := by decide +kernel
theorem cw22_ok : QC cw22 := by decide +kernel
theorem cw23_ok : QC cw23 := by decide +kernel
end Go.Proofs.YtbblahphgmkgnaaGreatDoor
