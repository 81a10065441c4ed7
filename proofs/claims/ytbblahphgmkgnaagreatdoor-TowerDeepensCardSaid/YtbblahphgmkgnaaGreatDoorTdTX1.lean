/- Rows that turn memory: runs by the evaluator, in the kernel, in every order. No conditions. -/
import Derived.Test.YtbblahphgmkgnaaGreatDoorTdH
namespace Go.Proofs.YtbblahphgmkgnaaGreatDoor
open Go.VM
theorem tw7_ok : QT tw7 := by decide +kernel
end Go.Proofs.YtbblahphgmkgnaaGreatDoor
