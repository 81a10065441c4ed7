/- Rows that turn memory: runs by the evaluator, in the kernel, in every order. No conditions. -/
import Derived.Test.YtdkbfimccddikaaGreatDoorTfH
namespace Go.Proofs.YtdkbfimccddikaaGreatDoor
open Go.VM
theorem dw190_ok : QD dw190 := by decide +kernel
end Go.Proofs.YtdkbfimccddikaaGreatDoor
