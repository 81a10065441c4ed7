/- Rows that turn memory: runs by the evaluator, in the kernel, in every order. No conditions. -/
import Derived.Test.YtdkbfimccddikaaGreatDoorTdH
namespace Go.Proofs.YtdkbfimccddikaaGreatDoor
open Go.VM
theorem dw153_ok : QD dw153 := by decide +kernel
theorem dw154_ok : QD dw154 := by decide +kernel
theorem dw155_ok : QD dw155 := by decide +kernel
theorem dw156_ok : QD dw156 := by decide +kernel
theorem dw157_ok : QD dw157 := by decide +kernel
theorem dw158_ok : QD dw158 := by decide +kernel
theorem dw159_ok : QD dw159 := by decide +kernel
theorem dw160_ok : QD dw160 := by decide +kernel
theorem dw161_ok : QD dw161 := by decide +kernel
end Go.Proofs.YtdkbfimccddikaaGreatDoor
