/- CompileTrees: a part of the proof (L5). No conditions. -/
import Derived.Test.YtfkgfibmhhlemaaQS
namespace Go.Proofs.Ytfkgfibmhhlemaa
open Go.ChangeShapes Go.WideShapes Go.ChangeAt Go.RowKit
theorem named_is : Try.pinned.checked.prog.funcNamed Rows.compileTreesUptoRow.func = some 3 := by kernel_rfl
theorem inst_is : Try.f3.isInstance Try.prog Rows.compileTreesUptoRow.origin Rows.compileTreesUptoRow.targs := of_decide_eq_true (by kernel_rfl)
theorem wrap_is : Try.f3.isWrapper Try.prog Rows.compileTreesUptoRow.wrapper Rows.compileTreesUptoRow.mainSum := by unfold Func.isWrapper; first | (rw [if_pos (by decide +kernel)]; kernel_rfl) | (rw [if_neg (by decide +kernel)]; exact ⟨rfl, rfl⟩)
/-- the statement -/
theorem row_holds : Rows.CompileTreesUptoSaid :=
  OpenClaim.holds_of_cond 3 Try.f3 rfl rfl rfl rfl rfl rfl rfl ⟨rfl, rfl, rfl, rfl, rfl⟩ rfl rfl rfl rfl rfl named_is Try.func3 (by kernel_rfl)
    inst_is wrap_is (fun os started H enc _ F => lifted os started H enc F)
#print axioms row_holds
end Go.Proofs.Ytfkgfibmhhlemaa
