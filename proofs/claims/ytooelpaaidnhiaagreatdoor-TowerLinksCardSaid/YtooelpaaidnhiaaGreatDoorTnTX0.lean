/- Rows that turn memory: runs by the evaluator, in the kernel, in every order. No conditions. -/
import Derived.Test.YtooelpaaidnhiaaGreatDoorTnH
namespace Go.Proofs.YtooelpaaidnhiaaGreatDoor
open Go.VM
theorem tw0_ok : QT tw0 := by decide +kernel
theorem tw1_ok : QT tw1 := by decide +kernel
theorem tw2_ok : QT tw2 := by decide +kernel
theorem tw3_ok : QT tw3 := by decide +kernel
theorem tw4_ok : QT tw4 := by decide +kernel
theorem tw5_ok : QT tw5 := by decide +kernel
theorem tw6_ok : QT tw6 := by decide +kernel
theorem tw7_ok : QT tw7 := by decide +kernel
theorem tw8_ok : QT tw8 := by decide +kernel
theorem tw9_ok : QT tw9 := by decide +kernel
theorem tw10_ok : QT tw10 := by decide +kernel
theorem tw11_ok : QT tw11 := by decide +kernel
end Go.Proofs.YtooelpaaidnhiaaGreatDoor
