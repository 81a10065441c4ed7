/- Rows that turn memory: runs by the evaluator, in the kernel, in every order. No conditions. -/
import Derived.Test.YtdkbfimccddikaaGreatDoorTlH
namespace Go.Proofs.YtdkbfimccddikaaGreatDoor
open Go.VM
theorem dw120_ok : QD dw120 := by decide +kernel
end Go.Proofs.YtdkbfimccddikaaGreatDoor
