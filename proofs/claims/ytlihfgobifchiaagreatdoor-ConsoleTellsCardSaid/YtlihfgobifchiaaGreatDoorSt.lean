/- Library functions at this program, by the library's contracts, laid: what slices.Sorted says of a map's keys; strings.Repeat. No conditions. -/
import Derived.Test.YtlihfgobifchiaaGreatDoorVI
import Derived.Test.YtlihfgobifchiaaGreatDoorSg
namespace Go.Proofs.YtlihfgobifchiaaGreatDoor
open Go.VM Go.RowKit Go.Maps Go.Sort Go.Shelf
def isItS (g : Nat) : Bool := Nat.beq g 299 || Nat.beq g 416
theorem sortsS (m : Nat) : AnyZ.SortsIn Tryz.prog Tryz.sortedS_ren Fence.wide m :=
  ⟨fun blk off cap ss W hH hblk hsz => callsIn_wide.2 (AnyM.slices_Sort_string Tryz.sortS blk off cap ss W hH hblk hsz),
   fun p cap W => callsIn_wide.2 (AnyM.slices_Sort_string_none Tryz.sortS p cap W)⟩
set_option maxHeartbeats 1000000 in
theorem sortedS_299 {w : World} {Bm b clock : Nat} {es : Array MapEntry} (hBm : Bm < w.heap.size) (hm : w.cell? ⟨Bm, 0, none⟩ = some (.map (some b))) (hb : w.heap[b]? = some (.map es clock)) (hst : MapKept.Stamped es clock) (hk : ∀ x ∈ es.toList, ∃ s, x.key = .string s ∧ s.size ≤ 1000000) (hsz : es.size ≤ 100000) :
    Calls Tryz.prog 217 #[.func (.func 299) #[] #[.pointer (some ⟨Bm, 0, none⟩)]] w fun en w' => ∃ (v : Value) (ss : List (List UInt8)), en = .returned v ∧ ss.Perm (es.toList.map fun x => keyStr x.key) ∧ w'.ownsRow w.heap.size 9 1 v ss.length ((ss.mergeSort leB).map Go.Proofs.encStr) ∧ (v = .slice none 0 0 ↔ ss = []) ∧ Below w.heap.size w w' := by
  obtain ⟨D0, hown, hlen, hperm⟩ := own_of Tryz.underlying9 hb hst hk hsz
  have hmax : Maps.size D0 ≤ maxLen := by rw [hlen]; exact Nat.le_trans hsz (by decide)
  have hbytes : Maps.size D0 * 16 ≤ 140737488355328 := by rw [hlen]; omega
  have hseq : SeqGives Fence.wide 2 Tryz.prog 299 #[.pointer (some ⟨Bm, 0, none⟩)] Go.Proofs.encStr (fun ss => ss.Perm (strKeys D0)) (Maps.size D0) w :=
    AnyZ.keys_gives (ρ := Tryz.keysS299_ren) { Tryz.keysS299 with } Fence.wide _ trivial rfl (by omega) Bm b es.size D0 w hBm hm hown
  have cS := AnyZ.sorted_in Tryz.sortedS Fence.wide 5 trivial trivial trivial trivial rfl (by omega) (sortsS _) (enters_of Tryz.func298 (by kernel_rfl) rfl) 299 #[.pointer (some ⟨Bm, 0, none⟩)] trivial (enters_of Tryz.func299 (by kernel_rfl) rfl) _ _ hmax hbytes w hseq
  refine (callsIn_wide (n := 5)).1 (cS.mono ?_)
  rintro en w' ⟨v, ss, rfl, hS, hrow, hnil, hbel⟩
  exact ⟨v, ss, rfl, hS.trans hperm, hrow, hnil, hbel⟩
set_option maxHeartbeats 1000000 in
theorem sortedNilS_299 {w : World} {Bm : Nat} (hBm : Bm < w.heap.size) (hm : w.cell? ⟨Bm, 0, none⟩ = some (.map none)) :
    Calls Tryz.prog 217 #[.func (.func 299) #[] #[.pointer (some ⟨Bm, 0, none⟩)]] w fun en w' => en = .returned (.slice none 0 0) ∧ Below w.heap.size w w' := by
  have hseq : SeqGives Fence.wide 2 Tryz.prog 299 #[.pointer (some ⟨Bm, 0, none⟩)] Go.Proofs.encStr (fun ss : List (List UInt8) => ss = []) 0 w :=
    AnyZ.keys_gives_nil (ρ := Tryz.keysS299_ren) { Tryz.keysS299 with } Fence.wide _ trivial rfl Bm w hBm hm
  have cS := AnyZ.sorted_in Tryz.sortedS Fence.wide 5 trivial trivial trivial trivial rfl (by omega) (sortsS _) (enters_of Tryz.func298 (by kernel_rfl) rfl) 299 #[.pointer (some ⟨Bm, 0, none⟩)] trivial (enters_of Tryz.func299 (by kernel_rfl) rfl) _ 0 (Nat.zero_le _) (by omega) w hseq
  refine (callsIn_wide (n := 5)).1 (cS.mono ?_)
  rintro en w' ⟨v, ss, rfl, hS, _, hnil, hbel⟩
  exact ⟨by rw [hnil.2 hS], hbel⟩
set_option maxHeartbeats 1000000 in
theorem sortedS_416 {w : World} {Bm b clock : Nat} {es : Array MapEntry} (hBm : Bm < w.heap.size) (hm : w.cell? ⟨Bm, 0, none⟩ = some (.map (some b))) (hb : w.heap[b]? = some (.map es clock)) (hst : MapKept.Stamped es clock) (hk : ∀ x ∈ es.toList, ∃ s, x.key = .string s ∧ s.size ≤ 1000000) (hsz : es.size ≤ 100000) :
    Calls Tryz.prog 217 #[.func (.func 416) #[] #[.pointer (some ⟨Bm, 0, none⟩)]] w fun en w' => ∃ (v : Value) (ss : List (List UInt8)), en = .returned v ∧ ss.Perm (es.toList.map fun x => keyStr x.key) ∧ w'.ownsRow w.heap.size 9 1 v ss.length ((ss.mergeSort leB).map Go.Proofs.encStr) ∧ (v = .slice none 0 0 ↔ ss = []) ∧ Below w.heap.size w w' := by
  obtain ⟨D0, hown, hlen, hperm⟩ := own_of Tryz.underlying9 hb hst hk hsz
  have hmax : Maps.size D0 ≤ maxLen := by rw [hlen]; exact Nat.le_trans hsz (by decide)
  have hbytes : Maps.size D0 * 16 ≤ 140737488355328 := by rw [hlen]; omega
  have hseq : SeqGives Fence.wide 2 Tryz.prog 416 #[.pointer (some ⟨Bm, 0, none⟩)] Go.Proofs.encStr (fun ss => ss.Perm (strKeys D0)) (Maps.size D0) w :=
    AnyZ.keys_gives (ρ := Tryz.keysS416_ren) { Tryz.keysS416 with } Fence.wide _ trivial rfl (by omega) Bm b es.size D0 w hBm hm hown
  have cS := AnyZ.sorted_in Tryz.sortedS Fence.wide 5 trivial trivial trivial trivial rfl (by omega) (sortsS _) (enters_of Tryz.func298 (by kernel_rfl) rfl) 416 #[.pointer (some ⟨Bm, 0, none⟩)] trivial (enters_of Tryz.func416 (by kernel_rfl) rfl) _ _ hmax hbytes w hseq
  refine (callsIn_wide (n := 5)).1 (cS.mono ?_)
  rintro en w' ⟨v, ss, rfl, hS, hrow, hnil, hbel⟩
  exact ⟨v, ss, rfl, hS.trans hperm, hrow, hnil, hbel⟩
set_option maxHeartbeats 1000000 in
theorem sortedNilS_416 {w : World} {Bm : Nat} (hBm : Bm < w.heap.size) (hm : w.cell? ⟨Bm, 0, none⟩ = some (.map none)) :
    Calls Tryz.prog 217 #[.func (.func 416) #[] #[.pointer (some ⟨Bm, 0, none⟩)]] w fun en w' => en = .returned (.slice none 0 0) ∧ Below w.heap.size w w' := by
  have hseq : SeqGives Fence.wide 2 Tryz.prog 416 #[.pointer (some ⟨Bm, 0, none⟩)] Go.Proofs.encStr (fun ss : List (List UInt8) => ss = []) 0 w :=
    AnyZ.keys_gives_nil (ρ := Tryz.keysS416_ren) { Tryz.keysS416 with } Fence.wide _ trivial rfl Bm w hBm hm
  have cS := AnyZ.sorted_in Tryz.sortedS Fence.wide 5 trivial trivial trivial trivial rfl (by omega) (sortsS _) (enters_of Tryz.func298 (by kernel_rfl) rfl) 416 #[.pointer (some ⟨Bm, 0, none⟩)] trivial (enters_of Tryz.func416 (by kernel_rfl) rfl) _ 0 (Nat.zero_le _) (by omega) w hseq
  refine (callsIn_wide (n := 5)).1 (cS.mono ?_)
  rintro en w' ⟨v, ss, rfl, hS, _, hnil, hbel⟩
  exact ⟨by rw [hnil.2 hS], hbel⟩
theorem sortedAtS (w0 : Base) : SortedAt Tryz.prog w0 217 9 isItS := by
  refine ⟨fun g hg w Bm b clock es _ hBm hm hb hst hk hsz => ?_, fun g hg w Bm _ hBm hm => ?_⟩
  · unfold isItS at hg
    simp only [Bool.or_eq_true] at hg
    rcases hg with hg | hg
    · obtain rfl := Nat.eq_of_beq_eq_true hg; exact sortedS_299 hBm hm hb hst hk hsz
    · obtain rfl := Nat.eq_of_beq_eq_true hg; exact sortedS_416 hBm hm hb hst hk hsz
  · unfold isItS at hg
    simp only [Bool.or_eq_true] at hg
    rcases hg with hg | hg
    · obtain rfl := Nat.eq_of_beq_eq_true hg; exact sortedNilS_299 hBm hm
    · obtain rfl := Nat.eq_of_beq_eq_true hg; exact sortedNilS_416 hBm hm
theorem builderX : Builder.Extra Tryz.prog Tryz.lays105_ren where
  sizeBuilder := by kernel_rfl
  liesBuilder := by kernel_rfl
  t5 := Tryz.underlying5
  a5 := Tryz.isAgg5
  z5 := Tryz.sizeOf5
  v5 := Tryz.zeroValue5
  infoByte := by kernel_rfl
  cellsByte := by kernel_rfl
  sizeByte := by kernel_rfl
  neB5 := by decide
theorem repeat_at (w0 : Base) : RepeatAt Tryz.prog w0 393 := fun s c w _ hc hl => Any.strings_Repeat Tryz.lays105 builderX s c w (by omega) (by omega)
end Go.Proofs.YtlihfgobifchiaaGreatDoor
