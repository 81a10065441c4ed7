/- CompileTrees: a part of the proof (L3). No conditions. -/
import Derived.Test.YtfkgfibmhhlemaaVG
import Derived.Test.YtfkgfibmhhlemaaProg
import Derived.KernelRfl
namespace Go.Proofs.Ytfkgfibmhhlemaa
open Go.VM
def extL : List (Nat × Nat) := [(29, 1), (69, 2)]
abbrev hookA : Hook := ⟨fun _ => 0, lookN extL⟩
theorem mixed : Try.prog.follows .mixedOrders = true := by kernel_rfl
theorem g64 : Try.prog.globals.size ≤ 64 := by decide +kernel
theorem row29 : Extern.findNext Try.f29 = none ∧ Extern.find Try.f29 = some Extern.MathFloatBits.float64bits := ⟨by kernel_rfl, by kernel_rfl⟩
theorem vm29 : vmRow 1 Try.f29 = some Extern.MathFloatBits.float64bits := rfl
theorem row69 : Extern.findNext Try.f69 = none ∧ Extern.find Try.f69 = some Extern.MathFloatBits.float64frombits := ⟨by kernel_rfl, by kernel_rfl⟩
theorem vm69 : vmRow 2 Try.f69 = some Extern.MathFloatBits.float64frombits := rfl
theorem rows_ok (H : Hook) (hH : H.exts = lookN extL) : @RowsOk H Try.prog := by
  refine @rowsOk_of H _ extL (fun f => by show H.exts f = _; rw [hH]) fun f k hm fd hp impl hv => ?_
  simp only [extL, List.mem_cons, List.not_mem_nil, or_false, Prod.mk.injEq] at hm
  rcases hm with ⟨rfl, rfl⟩ | ⟨rfl, rfl⟩
  · rw [Try.func29] at hp; cases hp; rw [vm29] at hv; cases hv; exact row29
  · rw [Try.func69] at hp; cases hp; rw [vm69] at hv; cases hv; exact row69
set_option maxRecDepth 1000000 in
theorem awake_run : @runAll Try.prog hookA isTrue 500000 (startSt Try.prog [] 7 []) = true := by decide +kernel
theorem sums0 {W : World} : @Sums hookA Try.prog W := by
  refine @Sums.mk hookA _ _ ?_ ?_ ?_ ?_
  · intro f h; exact absurd rfl h
  · intro f h; cases h
  · intro f h; cases h
  · intro f h; cases h
def tot (_ : Nat) : Nat := 0
/-- 'awake' answers true, in whatever world that holds the program's variables -/
theorem awake_ok {W : World} (hsz : Try.prog.globals.size ≤ W.heap.size) : Calls Try.prog 7 #[] W fun e w' => e = .returned (.bool true) ∧ Grew W w' :=
  (@runAll_from hookA _ (rows_ok hookA rfl) mixed g64 [] tot 7 [] [] W (@sumOk_of hookA _ _ sums0) _ _ ⟨hsz, fun g o _ hl => by cases hl⟩ .nil awake_run).mono (by
    rintro e w' ⟨ρ, v, V, h, rfl, hv, hs, _, hp⟩
    exact ⟨by rw [isTrue_rel hv hp], Grew.of_sim hs⟩)
end Go.Proofs.Ytfkgfibmhhlemaa
