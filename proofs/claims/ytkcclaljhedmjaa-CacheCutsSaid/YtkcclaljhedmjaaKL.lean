/- CacheCuts: the statement. No conditions. -/
import Derived.Test.YtkcclaljhedmjaaKK
import Derived.HandedShaped
import Derived.JoinedOf
import Derived.ChangeArms
import Derived.ProofKit
import Derived.OpenShut
import Derived.WideKeyArgs
namespace Go.Proofs.Ytkcclaljhedmjaa
section
open Go.ChangeShapes Go.WideShapes Go.ChangeAt Go.RowKit
theorem size3c : Try.prog.cellsOf 3 = 1 := by kernel_rfl
/-- the argument -/
theorem open_ints8 {H : Type} {enc : TypeId × Value → H} {w : World} {sp : Nat → Bool} {hd : Bool} (n : Nat) (cs : List Value) (x : DataW H × List MemPlace) (h : DataW.trod enc Try.prog w 0 sp hd n 63 cs = some x) : ∃ a len cap, cs = [.slice a len cap] ∧ Ints8 w a len cap := by
  rcases DataW.trod_slice Try.underlying63 h with ⟨e3, rfl⟩ | ⟨ad, len, cap, els, rest, m', rfl, e3, rfl, hlc, hl, hc, hel, hat, _, _⟩
  · exact ⟨none, 0, 0, e3, by omega, fun i hi => by omega⟩
  · refine ⟨some ad, len, cap, e3, by omega, fun i hi => ?_⟩
    rw [size3c] at hat
    have hs0 : ad.spot = none := by
      have h1 := hat 0 (by omega)
      rw [List.getElem?_eq_getElem (by omega), Option.bind_eq_some_iff] at h1
      obtain ⟨ds, hd1, ht⟩ := h1
      obtain ⟨k, rfl, _⟩ := DataW.trod_int Try.underlying3 ht
      have hs := World.cell?_spot ((World.cells?_some hd1).2.2 0 (by decide))
      simpa [Addr.add] using hs
    have h1 := hat i hi
    rw [List.getElem?_eq_getElem (by omega), Option.bind_eq_some_iff] at h1
    obtain ⟨ds, hd1, ht⟩ := h1
    have hblk := World.cells?_block hd1 (by decide)
    obtain ⟨_, hlen, hcell⟩ := World.cells?_some hd1
    obtain ⟨k, rfl, _, wk⟩ := DataW.trod_int Try.underlying3 ht
    obtain ⟨b, o, s⟩ := ad
    obtain rfl : s = none := hs0
    have ha : ((⟨b, o, none⟩ : Addr).add (i * 1)).add 0 = ⟨b, o + i, none⟩ := by
      unfold Addr.add
      split <;> split <;> simp_all
    have hblk : b < w.heap.size := by
      unfold Addr.add at hblk
      split at hblk <;> exact hblk
    refine ⟨b, o, rfl, hblk, k, wk, ?_⟩
    have := hcell 0 (by decide)
    rw [ha] at this
    exact this
theorem own9 : ownKnob Try.prog.godebug = none := by kernel_rfl
theorem kp_same9 {W W' : World} (hg : Kp (fun _ => False) W W') {p : MemPlace} (hp : p.block < W.heap.size) : W.sameAt W' p := by
  cases p with
  | cell b o => exact World.cell?_of_block (w := W) (hg.block b hp (fun e => e))
  | map b => exact hg.block b hp (fun e => e)
theorem kp_but9 {w w' : World} {may : MemPlace → Prop} (h : Kp (fun _ => False) w w') : w.keptBut w' may := by
  refine ⟨h.os, h.output, fun i hi => ?_⟩
  rw [h.block i hi (fun e => e)]
  split <;> simp_all
set_option maxRecDepth 100000 in
theorem lifted5 (os : Os) (started : os.Started) (H : Type) (enc : TypeId × Value → H) :
    ReturnsInHanded {} Try.checked os 5 .any (Rows.cacheCutsSpec.pre6 enc Try.prog Try.f5 Rows.cacheCutsRow.domain false) (Rows.cacheCutsSpec.post enc Try.prog Try.f5 false true false false) := by
  refine returnsInHanded_of_change_shaped (C := Try.checked) own9 started (by kernel_rfl) Try.func5
    (ChangeSpec.witness6 (enc := enc) (C := Try.checked) false ⟨#[], #[.slice none 0 0, .int .i64 0], []⟩ 8 (by kernel_rfl) (by kernel_rfl) (by kernel_rfl) (by kernel_rfl)) ?_
  intro W base args ds gs before hval0 hW _ _ hsh _
  have hW' := hW
  obtain ⟨p, q, hA0, hV, rfl, _, _⟩ := hW
  have hA : DataW.TrodAll enc Try.prog W 0 (fun _ => true) true Try.f5.params.toList args.toList ds p := hA0
  rw [Try.params5] at hA
  obtain ⟨v0, u0, d0, du, p0, pu, hargs, rfl, rfl, h0, hu⟩ := trodAll_two hA
  obtain rfl : args = #[v0, u0] := by cases args; simp_all
  obtain ⟨x1, rfl, rfl, rfl, wf1⟩ := open_int Try.underlying3 (hval0 1 _ _ (by rw [← Array.getElem?_toList, Try.params5]; rfl) rfl) hu
  obtain ⟨rfl, rfl⟩ := trodVars_none hV
  have hsl : ∃ a l c, v0 = .slice a l c := by
    have : Value.okWide Try.prog W .any base 63 v0 := hval0 0 63 v0 (by rw [← Array.getElem?_toList, Try.params5]; rfl) rfl
    unfold Value.okWide at this
    rw [Try.underlying63] at this
    cases v0 with
    | slice a l c => exact ⟨a, l, c, rfl⟩
    | _ => first | exact this.elim | (exfalso; revert this; simp)
  obtain ⟨a, l, c, rfl⟩ := hsl
  have h0k := h0
  obtain ⟨fuel, hf⟩ := h0
  have hlt : ∀ x ∈ p0, x.block < W.heap.size := fun x hx => by simpa using hW'.lt x (List.mem_append_left _ (List.mem_append_left _ hx))
  obtain ⟨a', l', c', hcs, hst⟩ := open_ints8 fuel _ _ hf
  have hcs : [Value.slice a l c] = [.slice a' l' c'] := hcs
  cases hcs
  refine (cuts_any W a l c x1 hst).mono fun e W' ⟨he, hg⟩ => ?_
  subst he
  refine ⟨_, rfl, ⟨_, _, _, [], p0 ++ [], [], hW', trodAll_mk1 (shut_bool Try.underlying4 _), ?_, rfl, kp_but9 hg, fun h => by cases h⟩⟩
  rw [Try.params5]
  exact trodAll_mk2 (WideElems.Trod_stays (by kernel_rfl) (by kernel_rfl) (of_decide_eq_true (by kernel_rfl)) h0k (fun x hx => kp_same9 hg (hlt x hx)) (fun x hx => by simpa using hlt x hx)) (shut_int Try.underlying3 wf1)
theorem named5 : Try.pinned.checked.prog.funcNamed Rows.cacheCutsRow.func = some 5 := by kernel_rfl
theorem inst5 : Try.f5.isInstance Try.prog Rows.cacheCutsRow.origin Rows.cacheCutsRow.targs := of_decide_eq_true (by kernel_rfl)
theorem wrap5 : Try.f5.isWrapper Try.prog Rows.cacheCutsRow.wrapper Rows.cacheCutsRow.mainSum := by unfold Func.isWrapper; first | (rw [if_pos (by decide +kernel)]; kernel_rfl) | (rw [if_neg (by decide +kernel)]; exact ⟨rfl, rfl⟩)
/-- the statement -/
theorem ccuts_holds : Rows.CacheCutsSaid :=
  OpenClaim.holds_of_wide 5 Try.f5 rfl rfl rfl rfl rfl rfl rfl ⟨rfl, rfl, rfl, rfl, rfl⟩ rfl rfl rfl rfl rfl named5 Try.func5 (by kernel_rfl)
    inst5 wrap5 (fun os started H enc _ => lifted5 os started H enc)
#print axioms ccuts_holds
end
end Go.Proofs.Ytkcclaljhedmjaa
