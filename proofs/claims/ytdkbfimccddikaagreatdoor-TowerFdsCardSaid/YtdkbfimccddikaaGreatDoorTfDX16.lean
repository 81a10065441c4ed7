/- Rows that turn memory: runs by the evaluator, in the kernel, in every order. No conditions. -/
import Derived.Test.YtdkbfimccddikaaGreatDoorTfH
namespace Go.Proofs.YtdkbfimccddikaaGreatDoor
open Go.VM
theorem dw160_ok : QD dw160 := by decide +kernel
theorem dw161_ok : QD dw161 := by decide +kernel
theorem dw162_ok : QD dw162 := by decide +kernel
theorem dw163_ok : QD dw163 := by decide +kernel
theorem dw164_ok : QD dw164 := by decide +kernel
theorem dw165_ok : QD dw165 := by decide +kernel
theorem dw166_ok : QD dw166 := by decide +kernel
theorem dw167_ok : QD dw167 := by decide +kernel
theorem dw168_ok : QD dw168 := by decide +kernel
theorem dw169_ok : QD dw169 := by decide +kernel
end Go.Proofs.YtdkbfimccddikaaGreatDoor
