/- Rows that turn memory: runs by the evaluator, in the kernel, in every order. No conditions. -/
import Derived.Test.YtooelpaaidnhiaaGreatDoorTnH
namespace Go.Proofs.YtooelpaaidnhiaaGreatDoor
open Go.VM
theorem dw144_ok : QD dw144 := by decide +kernel
theorem dw145_ok : QD dw145 := by decide +kernel
theorem dw146_ok : QD dw146 := by decide +kernel
theorem dw147_ok : QD dw147 := by decide +kernel
theorem dw148_ok : QD dw148 := by decide +kernel
theorem dw149_ok : QD dw149 := by decide +kernel
theorem dw150_ok : QD dw150 := by decide +kernel
theorem dw151_ok : QD dw151 := by decide +kernel
theorem dw152_ok : QD dw152 := by decide +kernel
theorem dw153_ok : QD dw153 := by decide +kernel
theorem dw154_ok : QD dw154 := by decide +kernel
theorem dw155_ok : QD dw155 := by decide +kernel
theorem dw156_ok : QD dw156 := by decide +kernel
theorem dw157_ok : QD dw157 := by decide +kernel
theorem dw158_ok : QD dw158 := by decide +kernel
theorem dw159_ok : QD dw159 := by decide +kernel
end Go.Proofs.YtooelpaaidnhiaaGreatDoor
