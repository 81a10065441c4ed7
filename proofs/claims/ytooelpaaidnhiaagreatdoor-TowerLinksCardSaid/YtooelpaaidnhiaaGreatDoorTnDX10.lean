/- Rows that turn memory: runs by the evaluator, in the kernel, in every order. No conditions. -/
import Derived.Test.YtooelpaaidnhiaaGreatDoorTnH
namespace Go.Proofs.YtooelpaaidnhiaaGreatDoor
open Go.VM
theorem dw160_ok : QD dw160 := by decide +kernel
theorem dw161_ok : QD dw161 := by decide +kernel
theorem dw162_ok : QD dw162 := by decide +kernel
theorem dw163_ok : QD dw163 := by decide +kernel
theorem dw164_ok : QD dw164 := by decide +kernel
theorem dw165_ok : QD dw165 := by decide +kernel
theorem dw166_ok : QD dw166 := by decide +kernel
theorem dw167_ok : QD dw167 := by decide +kernel
theorem dw168_ok : QD dw168 := by decide +kernel
theorem dw169_ok : QD dw169 := by decide +kernel
theorem dw170_ok : QD dw170 := by decide +kernel
theorem dw171_ok : QD dw171 := by decide +kernel
theorem dw172_ok : QD dw172 := by decide +kernel
theorem dw173_ok : QD dw173 := by decide +kernel
theorem dw174_ok : QD dw174 := by decide +kernel
theorem dw175_ok : QD dw175 := by decide +kernel
end Go.Proofs.YtooelpaaidnhiaaGreatDoor
