/- Rows that turn memory: runs by the evaluator, in the kernel, in every order. No conditions. -/
import Derived.Test.YtdkbfimccddikaaGreatDoorTdH
namespace Go.Proofs.YtdkbfimccddikaaGreatDoor
open Go.VM
theorem cw16_ok : QC cw16 := by decide +kernel
theorem cw17_ok : QC cw17 := by decide +kernel
theorem cw18_ok : QC cw18 := by decide +kernel
end Go.Proofs.YtdkbfimccddikaaGreatDoor
