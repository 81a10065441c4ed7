/-
  NARROWER THAN 'FOR EVERY INPUT', by the rows' own cells (each row's printed sentence says how): CompileTrees: loops.
  DERIVED. THE GIVEN ROWS OF THIS SEAT. 3 by the template 'for every input the law returns true; each argument reads behind the call as it read before'; 0 by the template 'total and deterministic' (their statements: YtfkgfibmhhlemaaTotals.lean).
  GIVEN WITH THE SEED: the statements are not yours to turn. If you find one false, say at which input.
  Laid BY PROGRAM, IN A SANDBOX (cutbox-rows.mjs): the forced cells as the released guide's own fill.sh prints them over the translation e8147d91c27a54ac… (all of the seat's roots in one cut). By AI agents, Wed Nov 11 2026. No macro, syntax, notation, axiom, sorry.
-/
import Derived.Test.YtfkgfibmhhlemaaChecked
import GoSem.Claim
import GoSem.ClaimJoined
import GoSem.ClaimMapViews
import Derived.JoinedTies
import Derived.KernelRfl
namespace Go.Proofs.Ytfkgfibmhhlemaa
/- THE CELL 'sum', in the pinned program and in every row, IS THE sha256 OF THE DUMP (.gsa) THAT YtfkgfibmhhlemaaProg.lean LOADS. Nothing in Lean hashes anything: it is a label: what it is worth is what the hold of that sum in a sandbox is worth. -/
noncomputable def Try.pinned : Pinned := { name := "ytfkgfibmhhlemaa", sum := "e8147d91c27a54acd2859d042d635c74658c1ace3883787a03840d2358192c4c", checked := Try.checked }
namespace Rows
def none {H : Type} : Left H := { results := [], args := [] }

/-- 'oriellaw21.CompileTrees': WHATEVER THE INPUT: true; the input reads as it did. -/
def compileTreesSpec : ChangeSpec := { name := "compileTrees", fn := fun _ => fun
  | [d] => { results := [.lit (.bool true)], args := [d] }
  | _ => none }
def compileTreesRow : OpenClaim := { program := "ytfkgfibmhhlemaa", sum := "e8147d91c27a54acd2859d042d635c74658c1ace3883787a03840d2358192c4c", func := "oriel/oriellaw21.CompileTrees", spec := "compileTrees", inPlace := ["math.Float64frombits", "math.Float64bits"], unfollowed := true, recurses := true, loops := true, apart := false }
def CompileTreesSaid : Prop := compileTreesRow.holds Try.pinned (OpenSpec.ofChange compileTreesSpec)

/-- ITS FALSE NEIGHBOUR: 'it returns false'. Refute it at one input. -/
def compileTreesWrong : ChangeSpec := { name := "compileTrees", fn := fun _ => fun
  | [d] => { results := [.lit (.bool false)], args := [d] }
  | _ => none }
def CompileTreesWrongFalsely : Prop := compileTreesRow.holds Try.pinned (OpenSpec.ofChange compileTreesWrong)

/-- 'oriellaw21.CompileScripts': WHATEVER THE INPUT: true; the input reads as it did. -/
def compileScriptsSpec : ChangeSpec := { name := "compileScripts", fn := fun _ => fun
  | [d] => { results := [.lit (.bool true)], args := [d] }
  | _ => none }
def compileScriptsRow : OpenClaim := { program := "ytfkgfibmhhlemaa", sum := "e8147d91c27a54acd2859d042d635c74658c1ace3883787a03840d2358192c4c", func := "oriel/oriellaw21.CompileScripts", spec := "compileScripts", inPlace := ["math.Float64frombits", "math.Float64bits"], unfollowed := true, recurses := true, apart := false }
def CompileScriptsSaid : Prop := compileScriptsRow.holds Try.pinned (OpenSpec.ofChange compileScriptsSpec)

/-- ITS FALSE NEIGHBOUR: 'it returns false'. Refute it at one input. -/
def compileScriptsWrong : ChangeSpec := { name := "compileScripts", fn := fun _ => fun
  | [d] => { results := [.lit (.bool false)], args := [d] }
  | _ => none }
def CompileScriptsWrongFalsely : Prop := compileScriptsRow.holds Try.pinned (OpenSpec.ofChange compileScriptsWrong)

/-- 'oriellaw21.CompileJumps': WHATEVER THE INPUT: true; the input reads as it did. -/
def compileJumpsSpec : ChangeSpec := { name := "compileJumps", fn := fun _ => fun
  | [d] => { results := [.lit (.bool true)], args := [d] }
  | _ => none }
def compileJumpsRow : OpenClaim := { program := "ytfkgfibmhhlemaa", sum := "e8147d91c27a54acd2859d042d635c74658c1ace3883787a03840d2358192c4c", func := "oriel/oriellaw21.CompileJumps", spec := "compileJumps", inPlace := ["math.Float64frombits", "math.Float64bits"], unfollowed := true, recurses := true, apart := false }
def CompileJumpsSaid : Prop := compileJumpsRow.holds Try.pinned (OpenSpec.ofChange compileJumpsSpec)

/-- ITS FALSE NEIGHBOUR: 'it returns false'. Refute it at one input. -/
def compileJumpsWrong : ChangeSpec := { name := "compileJumps", fn := fun _ => fun
  | [d] => { results := [.lit (.bool false)], args := [d] }
  | _ => none }
def CompileJumpsWrongFalsely : Prop := compileJumpsRow.holds Try.pinned (OpenSpec.ofChange compileJumpsWrong)

/- THE SECOND FORM. 'bulk': how many values and letters a reading holds, each counted each time it is reached (what is shared counts as often as it is met; a slice's spare places count too). A statement '..UptoSaid' is the law's where the arguments, and the package variables that the reading takes, are together of bulk at most 1048576: NARROWER than '..Said'. Prove '..Said' where nothing that the law and all that it calls make is longer than what came in: it says more and counts as full. Else prove '..UptoSaid'. A law counts once. -/
mutual
def uptoBulk {H : Type} : DataW H → Nat
  | .lit (.string bytes) => bytes.length + 1
  | .lit _ => 1
  | .nil => 1
  | .ptr d => uptoBulk d + 1
  | .slice elems spare => uptoBulkAll elems + uptoBulkAll spare + 1
  | .agg parts => uptoBulkAll parts + 1
  | .iface _ d => uptoBulk d + 1
  | .map entries => uptoBulkEntries entries + 1
  | .held _ => 1
def uptoBulkAll {H : Type} : List (DataW H) → Nat
  | [] => 0
  | d :: r => uptoBulk d + uptoBulkAll r
def uptoBulkEntries {H : Type} : List (Lit × DataW H) → Nat
  | [] => 0
  | x :: r => uptoBulkEntry x + uptoBulkEntries r
def uptoBulkEntry {H : Type} : Lit × DataW H → Nat
  | (.string bytes, d) => bytes.length + uptoBulk d + 1
  | (_, d) => uptoBulk d + 1
 end
def uptoSmall : (H : Type) → List (DataW H) → Bool := fun _ ds => decide (uptoBulkAll ds ≤ 1048576)
def OpenSpec.upto (s : _root_.Go.ChangeSpec) : _root_.Go.OpenSpec := { _root_.Go.OpenSpec.ofChange s with cond := some uptoSmall }

/-- 'oriellaw21.CompileTrees', WHERE WHAT IT READS IS OF BULK AT MOST 1048576: true; the input reads as it did. -/
def compileTreesUptoRow : OpenClaim := { program := "ytfkgfibmhhlemaa", sum := "e8147d91c27a54acd2859d042d635c74658c1ace3883787a03840d2358192c4c", func := "oriel/oriellaw21.CompileTrees", spec := "compileTrees", inPlace := ["math.Float64frombits", "math.Float64bits"], unfollowed := true, recurses := true, loops := true, apart := false, narrowed := true }
def CompileTreesUptoSaid : Prop := compileTreesUptoRow.holds Try.pinned (OpenSpec.upto compileTreesSpec)

/-- 'oriellaw21.CompileScripts', WHERE WHAT IT READS IS OF BULK AT MOST 1048576: true; the input reads as it did. -/
def compileScriptsUptoRow : OpenClaim := { program := "ytfkgfibmhhlemaa", sum := "e8147d91c27a54acd2859d042d635c74658c1ace3883787a03840d2358192c4c", func := "oriel/oriellaw21.CompileScripts", spec := "compileScripts", inPlace := ["math.Float64frombits", "math.Float64bits"], unfollowed := true, recurses := true, apart := false, narrowed := true }
def CompileScriptsUptoSaid : Prop := compileScriptsUptoRow.holds Try.pinned (OpenSpec.upto compileScriptsSpec)

/-- 'oriellaw21.CompileJumps', WHERE WHAT IT READS IS OF BULK AT MOST 1048576: true; the input reads as it did. -/
def compileJumpsUptoRow : OpenClaim := { program := "ytfkgfibmhhlemaa", sum := "e8147d91c27a54acd2859d042d635c74658c1ace3883787a03840d2358192c4c", func := "oriel/oriellaw21.CompileJumps", spec := "compileJumps", inPlace := ["math.Float64frombits", "math.Float64bits"], unfollowed := true, recurses := true, apart := false, narrowed := true }
def CompileJumpsUptoSaid : Prop := compileJumpsUptoRow.holds Try.pinned (OpenSpec.upto compileJumpsSpec)

end Rows
end Go.Proofs.Ytfkgfibmhhlemaa
