/- The sorted keys of a map of whole numbers. No conditions. -/
import Derived.Test.YtkcclaljhedmjaaB4
import Derived.Test.YtkcclaljhedmjaaSg
namespace Go.Proofs.Ytkcclaljhedmjaa
open Go.RowKit Go.Maps Go.Sort Go.Shelf
def keyI : Value → Int
  | .int _ n => n
  | _ => 0
set_option maxRecDepth 100000 in
theorem own_ofI {w : World} {b clock : Nat} {es : Array MapEntry} (hb : w.heap[b]? = some (.map es clock)) (hst : MapKept.Stamped es clock) (hkeys : ∀ x ∈ es.toList, ∃ n, x.key = .int .i64 n ∧ (Lit.int .i64 n).wf = true) (hsz : es.size ≤ 100000) :
    ∃ D0 : DataW Unit, w.ownsMap Try.prog 3 (fun _ => some (.nil, [])) b es.size D0 ∧ Maps.size D0 = es.size ∧ (intKeys D0).Perm (es.toList.map fun x => keyI x.key) := by
  have hrd : ∀ x ∈ es.toList, WideElems.rd (H := Unit) Try.prog 3 (fun _ => some (.nil, [])) x = some (.int .i64 (keyI x.key), .nil) := fun x hx => by
    obtain ⟨n, hn, hw⟩ := hkeys x hx
    simp [WideElems.rd, hn, key3 hw, keyI]
  have hF : WideElems.Fit (H := Unit) Try.prog 3 (fun _ => some (.nil, [])) es clock := ⟨Nat.le_trans hsz (by decide), hst, fun x hx => ⟨_, hrd x hx⟩⟩
  refine ⟨_, ⟨es, clock, hb, hF, Nat.le_refl _, rfl⟩, ?_, ?_⟩
  · show ((es.toList.map (WideElems.rg (H := Unit) Try.prog 3 fun _ => some (.nil, []))).foldr DataW.insert []).length = es.size
    rw [(WideShapes.sorted_perm _).length_eq, List.length_map, Array.length_toList]
  · show (((es.toList.map (WideElems.rg (H := Unit) Try.prog 3 fun _ => some (.nil, []))).foldr DataW.insert []).map fun p => Go.intOf p.1).Perm _
    refine ((WideShapes.sorted_perm _).map _).trans ?_
    rw [List.map_map]
    refine .of_eq (List.map_congr_left fun x hx => ?_)
    show Go.intOf (WideElems.rg Try.prog 3 _ x).1 = _
    rw [WideElems.rg_of (hrd x hx)]
    rfl
theorem sortsI (m : Nat) : AnyZI.SortsIn Try.prog Try.sortedI_ren Fence.wide m :=
  ⟨fun blk off cap ss W hH hblk hsz => callsIn_wide.2 (AnyM.slices_Sort_int Try.sortI blk off cap ss W hH hblk hsz),
   fun p cap W => callsIn_wide.2 (AnyM.slices_Sort_int_none Try.sortI p cap W)⟩
/-- maps.Keys -/
def KeysPost (g : Nat) (ty : TypeId) (mb : Nat) (w : World) (e : Ending) (w' : World) : Prop := e = .returned (.func (.func g) #[] #[.pointer (some ⟨w.heap.size, 0, none⟩)]) ∧ w' = w.alloc (.cells #[.map (some mb)] ty)
theorem keys64 (mb : Nat) (w : World) : Calls Try.prog 64 #[.map (some mb)] w (KeysPost 72 31 mb w) :=
  callsIn_wide.1 (AnyZI.keys_in (ρ := Try.keysI72_ren) Try.keysI72 Fence.wide 3 trivial rfl (some mb) w)
theorem keys65 (mb : Nat) (w : World) : Calls Try.prog 65 #[.map (some mb)] w (KeysPost 73 81 mb w) :=
  callsIn_wide.1 (AnyZI.keys_in (ρ := Try.keysI73_ren) Try.keysI73 Fence.wide 3 trivial rfl (some mb) w)
/-- slices.Sorted -/
def SortPost (S : Int → Option Value) (m : Nat) (w : World) (e : Ending) (w' : World) : Prop :=
  ∃ (v : Value) (ks : List Nat), e = .returned v ∧ ks.Pairwise (· < ·) ∧ (∀ k : Nat, k ∈ ks ↔ (S (k : Int)).isSome = true) ∧ ks.length = m ∧ IntsAt w' v ks ∧ Kp (fun _ => False) w w'
theorem sort_close {w w' : World} {es : Array MapEntry} {clock : Nat} {S : Int → Option Value} (hs : MapKept.Stamped es clock) (he : EntOf es S) (hpos : ∀ k v, S k = some v → 0 ≤ k) {v : Value} {ss : List Int} (hp : ss.Perm (es.toList.map fun x => keyI x.key))
    (hrow : w'.ownsRow w.heap.size 3 1 v ss.length ((ss.mergeSort leI).map encZ)) (hnil : v = .slice none 0 0 ↔ ss = []) (hbel : Below w.heap.size w w') : SortPost S es.size w (.returned v) w' := by
  have hkey : ∀ x ∈ es.toList, ∃ n : Nat, x.key = .int .i64 (n : Int) ∧ S n = some x.val := fun x hx => by
    obtain ⟨n, hn, _, hv⟩ := he.there x hx
    have := hpos n _ hv
    obtain ⟨n, rfl⟩ : ∃ m : Nat, n = m := ⟨n.toNat, by omega⟩
    exact ⟨n, hn, hv⟩
  have hmem : ∀ z : Int, z ∈ ss ↔ (S z).isSome = true := fun z => by
    rw [hp.mem_iff, List.mem_map]
    constructor
    · rintro ⟨x, hx, rfl⟩
      obtain ⟨n, hn, hv⟩ := hkey x hx
      rw [hn]
      simp [keyI, hv]
    · intro h
      obtain ⟨u, hu⟩ := Option.isSome_iff_exists.1 h
      obtain ⟨x, hx, hk⟩ := he.all z u hu
      exact ⟨x, hx, by rw [hk]; rfl⟩
  have hnn : ∀ z ∈ ss, 0 ≤ z := fun z hz => by
    obtain ⟨u, hu⟩ := Option.isSome_iff_exists.1 ((hmem z).1 hz)
    exact hpos z u hu
  have hnd : ss.Nodup := by
    rw [hp.nodup_iff]
    have hst := ((MapKept.stamped_iff es clock).1 hs).2.2
    unfold List.Nodup
    rw [List.pairwise_map]
    refine List.Pairwise.imp_of_mem ?_ hst
    intro a b ha hb hne e
    obtain ⟨n, hn, _⟩ := hkey a ha
    obtain ⟨n2, hn2, _⟩ := hkey b hb
    rw [hn, hn2] at e hne
    simp only [keyI] at e
    exact hne (by rw [e])
  have hms : (ss.mergeSort leI).Perm ss := List.mergeSort_perm ss leI
  have hsorted : (ss.mergeSort leI).Pairwise (fun a b => leI a b = true) := List.pairwise_mergeSort (fun a b c h1 h2 => by simp [leI] at *; omega) (fun a b => by simp [leI]; omega) ss
  have hmsn : (ss.mergeSort leI).Nodup := hms.nodup_iff.2 hnd
  refine ⟨v, (ss.mergeSort leI).map Int.toNat, rfl, ?_, fun k => ?_, ?_, ?_, kp_below hbel⟩
  · rw [List.pairwise_map]
    refine List.Pairwise.imp_of_mem ?_ (hsorted.and hmsn)
    rintro a b ha hb ⟨h1, h2⟩
    have := hnn a (hms.mem_iff.1 ha)
    have := hnn b (hms.mem_iff.1 hb)
    simp [leI] at h1
    omega
  · rw [← hmem, List.mem_map]
    constructor
    · rintro ⟨z, hz, rfl⟩
      have h1 := hms.mem_iff.1 hz
      have := hnn z h1
      rwa [Int.toNat_of_nonneg this]
    · intro h
      exact ⟨k, hms.mem_iff.2 h, by simp⟩
  · rw [List.length_map, hms.length_eq, hp.length_eq, List.length_map, Array.length_toList]
  · have hlen : ((ss.mergeSort leI).map Int.toNat).length = ss.length := by rw [List.length_map, hms.length_eq]
    by_cases h0 : ss = []
    · refine .inl ⟨hnil.2 h0, ?_⟩
      subst h0
      simp
    · rcases hrow.2 with ⟨e, _⟩ | ⟨g, cap, cur, e, hB, hg, hnc, hcm, hsz, htake⟩
      · exact absurd (hnil.1 e) h0
      · refine .inr ⟨g, cap, cur, by rw [hlen, e], ?_, hg, fun j hj => ?_⟩
        · rw [hlen]; exact List.length_pos_iff.2 h0
        · have hj2 : j < ss.length := by omega
          have e1 : cur.toList[j]? = (cur.toList.take (ss.length * 1))[j]? := by rw [List.getElem?_take, if_pos (by omega)]
          rw [← Array.getElem?_toList, e1, htake]
          have hjm : j < (ss.mergeSort leI).length := by rw [hms.length_eq]; exact hj2
          have hz := hnn _ (hms.mem_iff.1 (List.getElem_mem hjm))
          simp only [intsC, List.getElem?_map, List.getElem?_eq_getElem hjm, Option.map_some]
          rw [Int.toNat_of_nonneg hz]
set_option maxHeartbeats 1000000 in
theorem sorted72 {w : World} {Bm mb m : Nat} {S : Int → Option Value} (hBm : Bm < w.heap.size) (hm : w.cell? ⟨Bm, 0, none⟩ = some (.map (some mb))) (h : MapAt w mb S m) (hpos : ∀ k v, S k = some v → 0 ≤ k) : Calls Try.prog 63 #[.func (.func 72) #[] #[.pointer (some ⟨Bm, 0, none⟩)]] w (SortPost S m w) := by
  obtain ⟨es, clock, hb, hs, rfl, hsz, he⟩ := h
  obtain ⟨D0, hown, hlen, hperm⟩ := own_ofI hb hs (fun x hx => by obtain ⟨n, hn, hw, _⟩ := he.there x hx; exact ⟨n, hn, hw⟩) hsz
  have hmax : Maps.size D0 ≤ maxLen := by rw [hlen]; exact Nat.le_trans hsz (by decide)
  have hbytes : Maps.size D0 * 8 ≤ 140737488355328 := by rw [hlen]; omega
  have hseq : SeqGives Fence.wide 2 Try.prog 72 #[.pointer (some ⟨Bm, 0, none⟩)] encZ (fun ss => ss.Perm (intKeys D0)) (Maps.size D0) w :=
    AnyZI.keys_gives (ρ := Try.keysI72_ren) { Try.keysI72 with } Fence.wide _ trivial rfl (by omega) Bm mb es.size D0 w hBm hm hown
  have cS := AnyZI.sorted_in Try.sortedI Fence.wide 5 trivial trivial trivial trivial rfl (by omega) (sortsI _) (enters_of Try.func71 (by kernel_rfl) rfl) 72 #[.pointer (some ⟨Bm, 0, none⟩)] trivial (enters_of Try.func72 (by kernel_rfl) rfl) _ _ hmax hbytes w hseq
  refine (callsIn_wide (n := 5)).1 (cS.mono ?_)
  rintro en w' ⟨v, ss, rfl, hS, hrow, hnil, hbel⟩
  exact sort_close hs he hpos (hS.trans hperm) hrow hnil hbel
set_option maxHeartbeats 1000000 in
theorem sorted73 {w : World} {Bm mb m : Nat} {S : Int → Option Value} (hBm : Bm < w.heap.size) (hm : w.cell? ⟨Bm, 0, none⟩ = some (.map (some mb))) (h : MapAt w mb S m) (hpos : ∀ k v, S k = some v → 0 ≤ k) : Calls Try.prog 63 #[.func (.func 73) #[] #[.pointer (some ⟨Bm, 0, none⟩)]] w (SortPost S m w) := by
  obtain ⟨es, clock, hb, hs, rfl, hsz, he⟩ := h
  obtain ⟨D0, hown, hlen, hperm⟩ := own_ofI hb hs (fun x hx => by obtain ⟨n, hn, hw, _⟩ := he.there x hx; exact ⟨n, hn, hw⟩) hsz
  have hmax : Maps.size D0 ≤ maxLen := by rw [hlen]; exact Nat.le_trans hsz (by decide)
  have hbytes : Maps.size D0 * 8 ≤ 140737488355328 := by rw [hlen]; omega
  have hseq : SeqGives Fence.wide 2 Try.prog 73 #[.pointer (some ⟨Bm, 0, none⟩)] encZ (fun ss => ss.Perm (intKeys D0)) (Maps.size D0) w :=
    AnyZI.keys_gives (ρ := Try.keysI73_ren) { Try.keysI73 with } Fence.wide _ trivial rfl (by omega) Bm mb es.size D0 w hBm hm hown
  have cS := AnyZI.sorted_in Try.sortedI Fence.wide 5 trivial trivial trivial trivial rfl (by omega) (sortsI _) (enters_of Try.func71 (by kernel_rfl) rfl) 73 #[.pointer (some ⟨Bm, 0, none⟩)] trivial (enters_of Try.func73 (by kernel_rfl) rfl) _ _ hmax hbytes w hseq
  refine (callsIn_wide (n := 5)).1 (cS.mono ?_)
  rintro en w' ⟨v, ss, rfl, hS, hrow, hnil, hbel⟩
  exact sort_close hs he hpos (hS.trans hperm) hrow hnil hbel
end Go.Proofs.Ytkcclaljhedmjaa
