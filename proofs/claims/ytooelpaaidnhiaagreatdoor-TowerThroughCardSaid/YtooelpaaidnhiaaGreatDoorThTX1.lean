/- Rows that turn memory: runs by the evaluator, in the kernel, in every order. No conditions. -/
import Derived.Test.YtooelpaaidnhiaaGreatDoorThH
namespace Go.Proofs.YtooelpaaidnhiaaGreatDoor
open Go.VM
set_option maxRecDepth 1000000 in
theorem tw4_ok : QT tw4 := by decide +kernel
set_option maxRecDepth 1000000 in
theorem tw5_ok : QT tw5 := by decide +kernel
set_option maxRecDepth 1000000 in
theorem tw6_ok : QT tw6 := by decide +kernel
set_option maxRecDepth 1000000 in
theorem tw7_ok : QT tw7 := by decide +kernel
end Go.Proofs.YtooelpaaidnhiaaGreatDoor
