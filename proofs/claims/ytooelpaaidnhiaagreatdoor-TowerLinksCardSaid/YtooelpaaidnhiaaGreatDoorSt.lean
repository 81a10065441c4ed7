/- Library functions at this program, by the library's contracts, laid: what slices.Sorted says of a map's keys; strings.Repeat. No conditions. -/
import Derived.Test.YtooelpaaidnhiaaGreatDoorVJ
import Derived.Test.YtooelpaaidnhiaaGreatDoorSg
namespace Go.Proofs.YtooelpaaidnhiaaGreatDoor
open Go.VM Go.RowKit Go.Maps Go.Sort Go.Shelf
theorem index_at (w0 : Base) : IndexAt Tryz.prog w0 456 := ⟨fun b off n c zs x w _ hz hb hc => AnyE.slices_Index (ρ := Tryz.idxX_ren) Tryz.idxX Value.bool (fun x y => x == y) (EqlAt.bool _ Tryz.underlying4) b off n c zs x w hz hb hc⟩
def isItS (g : Nat) : Bool := Nat.beq g 166 || Nat.beq g 239 || Nat.beq g 249 || Nat.beq g 345 || Nat.beq g 453 || Nat.beq g 532
theorem sortsS (m : Nat) : AnyZ.SortsIn Tryz.prog Tryz.sortedS_ren Fence.wide m :=
  ⟨fun blk off cap ss W hH hblk hsz => callsIn_wide.2 (AnyM.slices_Sort_string Tryz.sortS blk off cap ss W hH hblk hsz),
   fun p cap W => callsIn_wide.2 (AnyM.slices_Sort_string_none Tryz.sortS p cap W)⟩
set_option maxHeartbeats 1000000 in
theorem sortedS_166 {w : World} {Bm b clock : Nat} {es : Array MapEntry} (hBm : Bm < w.heap.size) (hm : w.cell? ⟨Bm, 0, none⟩ = some (.map (some b))) (hb : w.heap[b]? = some (.map es clock)) (hst : MapKept.Stamped es clock) (hk : ∀ x ∈ es.toList, ∃ s, x.key = .string s ∧ s.size ≤ 1000000) (hsz : es.size ≤ 100000) :
    Calls Tryz.prog 95 #[.func (.func 166) #[] #[.pointer (some ⟨Bm, 0, none⟩)]] w fun en w' => ∃ (v : Value) (ss : List (List UInt8)), en = .returned v ∧ ss.Perm (es.toList.map fun x => keyStr x.key) ∧ w'.ownsRow w.heap.size 9 1 v ss.length ((ss.mergeSort leB).map Go.Proofs.encStr) ∧ (v = .slice none 0 0 ↔ ss = []) ∧ Below w.heap.size w w' := by
  obtain ⟨D0, hown, hlen, hperm⟩ := own_of Tryz.underlying9 hb hst hk hsz
  have hmax : Maps.size D0 ≤ maxLen := by rw [hlen]; exact Nat.le_trans hsz (by decide)
  have hbytes : Maps.size D0 * 16 ≤ 140737488355328 := by rw [hlen]; omega
  have hseq : SeqGives Fence.wide 2 Tryz.prog 166 #[.pointer (some ⟨Bm, 0, none⟩)] Go.Proofs.encStr (fun ss => ss.Perm (strKeys D0)) (Maps.size D0) w :=
    AnyZ.keys_gives (ρ := Tryz.keysS166_ren) { Tryz.keysS166 with } Fence.wide _ trivial rfl (by omega) Bm b es.size D0 w hBm hm hown
  have cS := AnyZ.sorted_in Tryz.sortedS Fence.wide 5 trivial trivial trivial trivial rfl (by omega) (sortsS _) (enters_of Tryz.func165 (by kernel_rfl) rfl) 166 #[.pointer (some ⟨Bm, 0, none⟩)] trivial (enters_of Tryz.func166 (by kernel_rfl) rfl) _ _ hmax hbytes w hseq
  refine (callsIn_wide (n := 5)).1 (cS.mono ?_)
  rintro en w' ⟨v, ss, rfl, hS, hrow, hnil, hbel⟩
  exact ⟨v, ss, rfl, hS.trans hperm, hrow, hnil, hbel⟩
set_option maxHeartbeats 1000000 in
theorem sortedNilS_166 {w : World} {Bm : Nat} (hBm : Bm < w.heap.size) (hm : w.cell? ⟨Bm, 0, none⟩ = some (.map none)) :
    Calls Tryz.prog 95 #[.func (.func 166) #[] #[.pointer (some ⟨Bm, 0, none⟩)]] w fun en w' => en = .returned (.slice none 0 0) ∧ Below w.heap.size w w' := by
  have hseq : SeqGives Fence.wide 2 Tryz.prog 166 #[.pointer (some ⟨Bm, 0, none⟩)] Go.Proofs.encStr (fun ss : List (List UInt8) => ss = []) 0 w :=
    AnyZ.keys_gives_nil (ρ := Tryz.keysS166_ren) { Tryz.keysS166 with } Fence.wide _ trivial rfl Bm w hBm hm
  have cS := AnyZ.sorted_in Tryz.sortedS Fence.wide 5 trivial trivial trivial trivial rfl (by omega) (sortsS _) (enters_of Tryz.func165 (by kernel_rfl) rfl) 166 #[.pointer (some ⟨Bm, 0, none⟩)] trivial (enters_of Tryz.func166 (by kernel_rfl) rfl) _ 0 (Nat.zero_le _) (by omega) w hseq
  refine (callsIn_wide (n := 5)).1 (cS.mono ?_)
  rintro en w' ⟨v, ss, rfl, hS, _, hnil, hbel⟩
  exact ⟨by rw [hnil.2 hS], hbel⟩
set_option maxHeartbeats 1000000 in
theorem sortedS_239 {w : World} {Bm b clock : Nat} {es : Array MapEntry} (hBm : Bm < w.heap.size) (hm : w.cell? ⟨Bm, 0, none⟩ = some (.map (some b))) (hb : w.heap[b]? = some (.map es clock)) (hst : MapKept.Stamped es clock) (hk : ∀ x ∈ es.toList, ∃ s, x.key = .string s ∧ s.size ≤ 1000000) (hsz : es.size ≤ 100000) :
    Calls Tryz.prog 95 #[.func (.func 239) #[] #[.pointer (some ⟨Bm, 0, none⟩)]] w fun en w' => ∃ (v : Value) (ss : List (List UInt8)), en = .returned v ∧ ss.Perm (es.toList.map fun x => keyStr x.key) ∧ w'.ownsRow w.heap.size 9 1 v ss.length ((ss.mergeSort leB).map Go.Proofs.encStr) ∧ (v = .slice none 0 0 ↔ ss = []) ∧ Below w.heap.size w w' := by
  obtain ⟨D0, hown, hlen, hperm⟩ := own_of Tryz.underlying9 hb hst hk hsz
  have hmax : Maps.size D0 ≤ maxLen := by rw [hlen]; exact Nat.le_trans hsz (by decide)
  have hbytes : Maps.size D0 * 16 ≤ 140737488355328 := by rw [hlen]; omega
  have hseq : SeqGives Fence.wide 2 Tryz.prog 239 #[.pointer (some ⟨Bm, 0, none⟩)] Go.Proofs.encStr (fun ss => ss.Perm (strKeys D0)) (Maps.size D0) w :=
    AnyZ.keys_gives (ρ := Tryz.keysS239_ren) { Tryz.keysS239 with } Fence.wide _ trivial rfl (by omega) Bm b es.size D0 w hBm hm hown
  have cS := AnyZ.sorted_in Tryz.sortedS Fence.wide 5 trivial trivial trivial trivial rfl (by omega) (sortsS _) (enters_of Tryz.func165 (by kernel_rfl) rfl) 239 #[.pointer (some ⟨Bm, 0, none⟩)] trivial (enters_of Tryz.func239 (by kernel_rfl) rfl) _ _ hmax hbytes w hseq
  refine (callsIn_wide (n := 5)).1 (cS.mono ?_)
  rintro en w' ⟨v, ss, rfl, hS, hrow, hnil, hbel⟩
  exact ⟨v, ss, rfl, hS.trans hperm, hrow, hnil, hbel⟩
set_option maxHeartbeats 1000000 in
theorem sortedNilS_239 {w : World} {Bm : Nat} (hBm : Bm < w.heap.size) (hm : w.cell? ⟨Bm, 0, none⟩ = some (.map none)) :
    Calls Tryz.prog 95 #[.func (.func 239) #[] #[.pointer (some ⟨Bm, 0, none⟩)]] w fun en w' => en = .returned (.slice none 0 0) ∧ Below w.heap.size w w' := by
  have hseq : SeqGives Fence.wide 2 Tryz.prog 239 #[.pointer (some ⟨Bm, 0, none⟩)] Go.Proofs.encStr (fun ss : List (List UInt8) => ss = []) 0 w :=
    AnyZ.keys_gives_nil (ρ := Tryz.keysS239_ren) { Tryz.keysS239 with } Fence.wide _ trivial rfl Bm w hBm hm
  have cS := AnyZ.sorted_in Tryz.sortedS Fence.wide 5 trivial trivial trivial trivial rfl (by omega) (sortsS _) (enters_of Tryz.func165 (by kernel_rfl) rfl) 239 #[.pointer (some ⟨Bm, 0, none⟩)] trivial (enters_of Tryz.func239 (by kernel_rfl) rfl) _ 0 (Nat.zero_le _) (by omega) w hseq
  refine (callsIn_wide (n := 5)).1 (cS.mono ?_)
  rintro en w' ⟨v, ss, rfl, hS, _, hnil, hbel⟩
  exact ⟨by rw [hnil.2 hS], hbel⟩
set_option maxHeartbeats 1000000 in
theorem sortedS_249 {w : World} {Bm b clock : Nat} {es : Array MapEntry} (hBm : Bm < w.heap.size) (hm : w.cell? ⟨Bm, 0, none⟩ = some (.map (some b))) (hb : w.heap[b]? = some (.map es clock)) (hst : MapKept.Stamped es clock) (hk : ∀ x ∈ es.toList, ∃ s, x.key = .string s ∧ s.size ≤ 1000000) (hsz : es.size ≤ 100000) :
    Calls Tryz.prog 95 #[.func (.func 249) #[] #[.pointer (some ⟨Bm, 0, none⟩)]] w fun en w' => ∃ (v : Value) (ss : List (List UInt8)), en = .returned v ∧ ss.Perm (es.toList.map fun x => keyStr x.key) ∧ w'.ownsRow w.heap.size 9 1 v ss.length ((ss.mergeSort leB).map Go.Proofs.encStr) ∧ (v = .slice none 0 0 ↔ ss = []) ∧ Below w.heap.size w w' := by
  obtain ⟨D0, hown, hlen, hperm⟩ := own_of Tryz.underlying9 hb hst hk hsz
  have hmax : Maps.size D0 ≤ maxLen := by rw [hlen]; exact Nat.le_trans hsz (by decide)
  have hbytes : Maps.size D0 * 16 ≤ 140737488355328 := by rw [hlen]; omega
  have hseq : SeqGives Fence.wide 2 Tryz.prog 249 #[.pointer (some ⟨Bm, 0, none⟩)] Go.Proofs.encStr (fun ss => ss.Perm (strKeys D0)) (Maps.size D0) w :=
    AnyZ.keys_gives (ρ := Tryz.keysS249_ren) { Tryz.keysS249 with } Fence.wide _ trivial rfl (by omega) Bm b es.size D0 w hBm hm hown
  have cS := AnyZ.sorted_in Tryz.sortedS Fence.wide 5 trivial trivial trivial trivial rfl (by omega) (sortsS _) (enters_of Tryz.func165 (by kernel_rfl) rfl) 249 #[.pointer (some ⟨Bm, 0, none⟩)] trivial (enters_of Tryz.func249 (by kernel_rfl) rfl) _ _ hmax hbytes w hseq
  refine (callsIn_wide (n := 5)).1 (cS.mono ?_)
  rintro en w' ⟨v, ss, rfl, hS, hrow, hnil, hbel⟩
  exact ⟨v, ss, rfl, hS.trans hperm, hrow, hnil, hbel⟩
set_option maxHeartbeats 1000000 in
theorem sortedNilS_249 {w : World} {Bm : Nat} (hBm : Bm < w.heap.size) (hm : w.cell? ⟨Bm, 0, none⟩ = some (.map none)) :
    Calls Tryz.prog 95 #[.func (.func 249) #[] #[.pointer (some ⟨Bm, 0, none⟩)]] w fun en w' => en = .returned (.slice none 0 0) ∧ Below w.heap.size w w' := by
  have hseq : SeqGives Fence.wide 2 Tryz.prog 249 #[.pointer (some ⟨Bm, 0, none⟩)] Go.Proofs.encStr (fun ss : List (List UInt8) => ss = []) 0 w :=
    AnyZ.keys_gives_nil (ρ := Tryz.keysS249_ren) { Tryz.keysS249 with } Fence.wide _ trivial rfl Bm w hBm hm
  have cS := AnyZ.sorted_in Tryz.sortedS Fence.wide 5 trivial trivial trivial trivial rfl (by omega) (sortsS _) (enters_of Tryz.func165 (by kernel_rfl) rfl) 249 #[.pointer (some ⟨Bm, 0, none⟩)] trivial (enters_of Tryz.func249 (by kernel_rfl) rfl) _ 0 (Nat.zero_le _) (by omega) w hseq
  refine (callsIn_wide (n := 5)).1 (cS.mono ?_)
  rintro en w' ⟨v, ss, rfl, hS, _, hnil, hbel⟩
  exact ⟨by rw [hnil.2 hS], hbel⟩
set_option maxHeartbeats 1000000 in
theorem sortedS_345 {w : World} {Bm b clock : Nat} {es : Array MapEntry} (hBm : Bm < w.heap.size) (hm : w.cell? ⟨Bm, 0, none⟩ = some (.map (some b))) (hb : w.heap[b]? = some (.map es clock)) (hst : MapKept.Stamped es clock) (hk : ∀ x ∈ es.toList, ∃ s, x.key = .string s ∧ s.size ≤ 1000000) (hsz : es.size ≤ 100000) :
    Calls Tryz.prog 95 #[.func (.func 345) #[] #[.pointer (some ⟨Bm, 0, none⟩)]] w fun en w' => ∃ (v : Value) (ss : List (List UInt8)), en = .returned v ∧ ss.Perm (es.toList.map fun x => keyStr x.key) ∧ w'.ownsRow w.heap.size 9 1 v ss.length ((ss.mergeSort leB).map Go.Proofs.encStr) ∧ (v = .slice none 0 0 ↔ ss = []) ∧ Below w.heap.size w w' := by
  obtain ⟨D0, hown, hlen, hperm⟩ := own_of Tryz.underlying9 hb hst hk hsz
  have hmax : Maps.size D0 ≤ maxLen := by rw [hlen]; exact Nat.le_trans hsz (by decide)
  have hbytes : Maps.size D0 * 16 ≤ 140737488355328 := by rw [hlen]; omega
  have hseq : SeqGives Fence.wide 2 Tryz.prog 345 #[.pointer (some ⟨Bm, 0, none⟩)] Go.Proofs.encStr (fun ss => ss.Perm (strKeys D0)) (Maps.size D0) w :=
    AnyZ.keys_gives (ρ := Tryz.keysS345_ren) { Tryz.keysS345 with } Fence.wide _ trivial rfl (by omega) Bm b es.size D0 w hBm hm hown
  have cS := AnyZ.sorted_in Tryz.sortedS Fence.wide 5 trivial trivial trivial trivial rfl (by omega) (sortsS _) (enters_of Tryz.func165 (by kernel_rfl) rfl) 345 #[.pointer (some ⟨Bm, 0, none⟩)] trivial (enters_of Tryz.func345 (by kernel_rfl) rfl) _ _ hmax hbytes w hseq
  refine (callsIn_wide (n := 5)).1 (cS.mono ?_)
  rintro en w' ⟨v, ss, rfl, hS, hrow, hnil, hbel⟩
  exact ⟨v, ss, rfl, hS.trans hperm, hrow, hnil, hbel⟩
set_option maxHeartbeats 1000000 in
theorem sortedNilS_345 {w : World} {Bm : Nat} (hBm : Bm < w.heap.size) (hm : w.cell? ⟨Bm, 0, none⟩ = some (.map none)) :
    Calls Tryz.prog 95 #[.func (.func 345) #[] #[.pointer (some ⟨Bm, 0, none⟩)]] w fun en w' => en = .returned (.slice none 0 0) ∧ Below w.heap.size w w' := by
  have hseq : SeqGives Fence.wide 2 Tryz.prog 345 #[.pointer (some ⟨Bm, 0, none⟩)] Go.Proofs.encStr (fun ss : List (List UInt8) => ss = []) 0 w :=
    AnyZ.keys_gives_nil (ρ := Tryz.keysS345_ren) { Tryz.keysS345 with } Fence.wide _ trivial rfl Bm w hBm hm
  have cS := AnyZ.sorted_in Tryz.sortedS Fence.wide 5 trivial trivial trivial trivial rfl (by omega) (sortsS _) (enters_of Tryz.func165 (by kernel_rfl) rfl) 345 #[.pointer (some ⟨Bm, 0, none⟩)] trivial (enters_of Tryz.func345 (by kernel_rfl) rfl) _ 0 (Nat.zero_le _) (by omega) w hseq
  refine (callsIn_wide (n := 5)).1 (cS.mono ?_)
  rintro en w' ⟨v, ss, rfl, hS, _, hnil, hbel⟩
  exact ⟨by rw [hnil.2 hS], hbel⟩
set_option maxHeartbeats 1000000 in
theorem sortedS_453 {w : World} {Bm b clock : Nat} {es : Array MapEntry} (hBm : Bm < w.heap.size) (hm : w.cell? ⟨Bm, 0, none⟩ = some (.map (some b))) (hb : w.heap[b]? = some (.map es clock)) (hst : MapKept.Stamped es clock) (hk : ∀ x ∈ es.toList, ∃ s, x.key = .string s ∧ s.size ≤ 1000000) (hsz : es.size ≤ 100000) :
    Calls Tryz.prog 95 #[.func (.func 453) #[] #[.pointer (some ⟨Bm, 0, none⟩)]] w fun en w' => ∃ (v : Value) (ss : List (List UInt8)), en = .returned v ∧ ss.Perm (es.toList.map fun x => keyStr x.key) ∧ w'.ownsRow w.heap.size 9 1 v ss.length ((ss.mergeSort leB).map Go.Proofs.encStr) ∧ (v = .slice none 0 0 ↔ ss = []) ∧ Below w.heap.size w w' := by
  obtain ⟨D0, hown, hlen, hperm⟩ := own_of Tryz.underlying9 hb hst hk hsz
  have hmax : Maps.size D0 ≤ maxLen := by rw [hlen]; exact Nat.le_trans hsz (by decide)
  have hbytes : Maps.size D0 * 16 ≤ 140737488355328 := by rw [hlen]; omega
  have hseq : SeqGives Fence.wide 2 Tryz.prog 453 #[.pointer (some ⟨Bm, 0, none⟩)] Go.Proofs.encStr (fun ss => ss.Perm (strKeys D0)) (Maps.size D0) w :=
    AnyZ.keys_gives (ρ := Tryz.keysS453_ren) { Tryz.keysS453 with } Fence.wide _ trivial rfl (by omega) Bm b es.size D0 w hBm hm hown
  have cS := AnyZ.sorted_in Tryz.sortedS Fence.wide 5 trivial trivial trivial trivial rfl (by omega) (sortsS _) (enters_of Tryz.func165 (by kernel_rfl) rfl) 453 #[.pointer (some ⟨Bm, 0, none⟩)] trivial (enters_of Tryz.func453 (by kernel_rfl) rfl) _ _ hmax hbytes w hseq
  refine (callsIn_wide (n := 5)).1 (cS.mono ?_)
  rintro en w' ⟨v, ss, rfl, hS, hrow, hnil, hbel⟩
  exact ⟨v, ss, rfl, hS.trans hperm, hrow, hnil, hbel⟩
set_option maxHeartbeats 1000000 in
theorem sortedNilS_453 {w : World} {Bm : Nat} (hBm : Bm < w.heap.size) (hm : w.cell? ⟨Bm, 0, none⟩ = some (.map none)) :
    Calls Tryz.prog 95 #[.func (.func 453) #[] #[.pointer (some ⟨Bm, 0, none⟩)]] w fun en w' => en = .returned (.slice none 0 0) ∧ Below w.heap.size w w' := by
  have hseq : SeqGives Fence.wide 2 Tryz.prog 453 #[.pointer (some ⟨Bm, 0, none⟩)] Go.Proofs.encStr (fun ss : List (List UInt8) => ss = []) 0 w :=
    AnyZ.keys_gives_nil (ρ := Tryz.keysS453_ren) { Tryz.keysS453 with } Fence.wide _ trivial rfl Bm w hBm hm
  have cS := AnyZ.sorted_in Tryz.sortedS Fence.wide 5 trivial trivial trivial trivial rfl (by omega) (sortsS _) (enters_of Tryz.func165 (by kernel_rfl) rfl) 453 #[.pointer (some ⟨Bm, 0, none⟩)] trivial (enters_of Tryz.func453 (by kernel_rfl) rfl) _ 0 (Nat.zero_le _) (by omega) w hseq
  refine (callsIn_wide (n := 5)).1 (cS.mono ?_)
  rintro en w' ⟨v, ss, rfl, hS, _, hnil, hbel⟩
  exact ⟨by rw [hnil.2 hS], hbel⟩
set_option maxHeartbeats 1000000 in
theorem sortedS_532 {w : World} {Bm b clock : Nat} {es : Array MapEntry} (hBm : Bm < w.heap.size) (hm : w.cell? ⟨Bm, 0, none⟩ = some (.map (some b))) (hb : w.heap[b]? = some (.map es clock)) (hst : MapKept.Stamped es clock) (hk : ∀ x ∈ es.toList, ∃ s, x.key = .string s ∧ s.size ≤ 1000000) (hsz : es.size ≤ 100000) :
    Calls Tryz.prog 95 #[.func (.func 532) #[] #[.pointer (some ⟨Bm, 0, none⟩)]] w fun en w' => ∃ (v : Value) (ss : List (List UInt8)), en = .returned v ∧ ss.Perm (es.toList.map fun x => keyStr x.key) ∧ w'.ownsRow w.heap.size 9 1 v ss.length ((ss.mergeSort leB).map Go.Proofs.encStr) ∧ (v = .slice none 0 0 ↔ ss = []) ∧ Below w.heap.size w w' := by
  obtain ⟨D0, hown, hlen, hperm⟩ := own_of Tryz.underlying9 hb hst hk hsz
  have hmax : Maps.size D0 ≤ maxLen := by rw [hlen]; exact Nat.le_trans hsz (by decide)
  have hbytes : Maps.size D0 * 16 ≤ 140737488355328 := by rw [hlen]; omega
  have hseq : SeqGives Fence.wide 2 Tryz.prog 532 #[.pointer (some ⟨Bm, 0, none⟩)] Go.Proofs.encStr (fun ss => ss.Perm (strKeys D0)) (Maps.size D0) w :=
    AnyZ.keys_gives (ρ := Tryz.keysS532_ren) { Tryz.keysS532 with } Fence.wide _ trivial rfl (by omega) Bm b es.size D0 w hBm hm hown
  have cS := AnyZ.sorted_in Tryz.sortedS Fence.wide 5 trivial trivial trivial trivial rfl (by omega) (sortsS _) (enters_of Tryz.func165 (by kernel_rfl) rfl) 532 #[.pointer (some ⟨Bm, 0, none⟩)] trivial (enters_of Tryz.func532 (by kernel_rfl) rfl) _ _ hmax hbytes w hseq
  refine (callsIn_wide (n := 5)).1 (cS.mono ?_)
  rintro en w' ⟨v, ss, rfl, hS, hrow, hnil, hbel⟩
  exact ⟨v, ss, rfl, hS.trans hperm, hrow, hnil, hbel⟩
set_option maxHeartbeats 1000000 in
theorem sortedNilS_532 {w : World} {Bm : Nat} (hBm : Bm < w.heap.size) (hm : w.cell? ⟨Bm, 0, none⟩ = some (.map none)) :
    Calls Tryz.prog 95 #[.func (.func 532) #[] #[.pointer (some ⟨Bm, 0, none⟩)]] w fun en w' => en = .returned (.slice none 0 0) ∧ Below w.heap.size w w' := by
  have hseq : SeqGives Fence.wide 2 Tryz.prog 532 #[.pointer (some ⟨Bm, 0, none⟩)] Go.Proofs.encStr (fun ss : List (List UInt8) => ss = []) 0 w :=
    AnyZ.keys_gives_nil (ρ := Tryz.keysS532_ren) { Tryz.keysS532 with } Fence.wide _ trivial rfl Bm w hBm hm
  have cS := AnyZ.sorted_in Tryz.sortedS Fence.wide 5 trivial trivial trivial trivial rfl (by omega) (sortsS _) (enters_of Tryz.func165 (by kernel_rfl) rfl) 532 #[.pointer (some ⟨Bm, 0, none⟩)] trivial (enters_of Tryz.func532 (by kernel_rfl) rfl) _ 0 (Nat.zero_le _) (by omega) w hseq
  refine (callsIn_wide (n := 5)).1 (cS.mono ?_)
  rintro en w' ⟨v, ss, rfl, hS, _, hnil, hbel⟩
  exact ⟨by rw [hnil.2 hS], hbel⟩
theorem sortedAtS (w0 : Base) : SortedAt Tryz.prog w0 95 9 isItS := by
  refine ⟨fun g hg w Bm b clock es _ hBm hm hb hst hk hsz => ?_, fun g hg w Bm _ hBm hm => ?_⟩
  · unfold isItS at hg
    simp only [Bool.or_eq_true] at hg
    rcases hg with ((((hg | hg) | hg) | hg) | hg) | hg
    · obtain rfl := Nat.eq_of_beq_eq_true hg; exact sortedS_166 hBm hm hb hst hk hsz
    · obtain rfl := Nat.eq_of_beq_eq_true hg; exact sortedS_239 hBm hm hb hst hk hsz
    · obtain rfl := Nat.eq_of_beq_eq_true hg; exact sortedS_249 hBm hm hb hst hk hsz
    · obtain rfl := Nat.eq_of_beq_eq_true hg; exact sortedS_345 hBm hm hb hst hk hsz
    · obtain rfl := Nat.eq_of_beq_eq_true hg; exact sortedS_453 hBm hm hb hst hk hsz
    · obtain rfl := Nat.eq_of_beq_eq_true hg; exact sortedS_532 hBm hm hb hst hk hsz
  · unfold isItS at hg
    simp only [Bool.or_eq_true] at hg
    rcases hg with ((((hg | hg) | hg) | hg) | hg) | hg
    · obtain rfl := Nat.eq_of_beq_eq_true hg; exact sortedNilS_166 hBm hm
    · obtain rfl := Nat.eq_of_beq_eq_true hg; exact sortedNilS_239 hBm hm
    · obtain rfl := Nat.eq_of_beq_eq_true hg; exact sortedNilS_249 hBm hm
    · obtain rfl := Nat.eq_of_beq_eq_true hg; exact sortedNilS_345 hBm hm
    · obtain rfl := Nat.eq_of_beq_eq_true hg; exact sortedNilS_453 hBm hm
    · obtain rfl := Nat.eq_of_beq_eq_true hg; exact sortedNilS_532 hBm hm
def isItI (g : Nat) : Bool := Nat.beq g 348 || Nat.beq g 360 || Nat.beq g 459
theorem sortsI (m : Nat) : AnyZI.SortsIn Tryz.prog Tryz.sortedI_ren Fence.wide m :=
  ⟨fun blk off cap ss W hH hblk hsz => callsIn_wide.2 (AnyM.slices_Sort_int Tryz.sortI blk off cap ss W hH hblk hsz),
   fun p cap W => callsIn_wide.2 (AnyM.slices_Sort_int_none Tryz.sortI p cap W)⟩
set_option maxHeartbeats 1000000 in
theorem sortedI_348 {w : World} {Bm b clock : Nat} {es : Array MapEntry} (hBm : Bm < w.heap.size) (hm : w.cell? ⟨Bm, 0, none⟩ = some (.map (some b))) (hb : w.heap[b]? = some (.map es clock)) (hst : MapKept.Stamped es clock) (hk : ∀ x ∈ es.toList, ∃ n, x.key = .int .i64 n ∧ (Lit.int .i64 n).wf = true) (hsz : es.size ≤ 100000) :
    Calls Tryz.prog 246 #[.func (.func 348) #[] #[.pointer (some ⟨Bm, 0, none⟩)]] w fun en w' => ∃ (v : Value) (ss : List Int), en = .returned v ∧ ss.Perm (es.toList.map fun x => keyInt x.key) ∧ w'.ownsRow w.heap.size 3 1 v ss.length ((ss.mergeSort leI).map encZ) ∧ (v = .slice none 0 0 ↔ ss = []) ∧ Below w.heap.size w w' := by
  obtain ⟨D0, hown, hlen, hperm⟩ := own_ofI Tryz.underlying3 hb hst hk hsz
  have hmax : Maps.size D0 ≤ maxLen := by rw [hlen]; exact Nat.le_trans hsz (by decide)
  have hbytes : Maps.size D0 * 8 ≤ 140737488355328 := by rw [hlen]; omega
  have hseq : SeqGives Fence.wide 2 Tryz.prog 348 #[.pointer (some ⟨Bm, 0, none⟩)] encZ (fun ss => ss.Perm (intKeys D0)) (Maps.size D0) w :=
    AnyZI.keys_gives (ρ := Tryz.keysI348_ren) { Tryz.keysI348 with } Fence.wide _ trivial rfl (by omega) Bm b es.size D0 w hBm hm hown
  have cS := AnyZI.sorted_in Tryz.sortedI Fence.wide 5 trivial trivial trivial trivial rfl (by omega) (sortsI _) (enters_of Tryz.func347 (by kernel_rfl) rfl) 348 #[.pointer (some ⟨Bm, 0, none⟩)] trivial (enters_of Tryz.func348 (by kernel_rfl) rfl) _ _ hmax hbytes w hseq
  refine (callsIn_wide (n := 5)).1 (cS.mono ?_)
  rintro en w' ⟨v, ss, rfl, hS, hrow, hnil, hbel⟩
  exact ⟨v, ss, rfl, hS.trans hperm, hrow, hnil, hbel⟩
set_option maxHeartbeats 1000000 in
theorem sortedNilI_348 {w : World} {Bm : Nat} (hBm : Bm < w.heap.size) (hm : w.cell? ⟨Bm, 0, none⟩ = some (.map none)) :
    Calls Tryz.prog 246 #[.func (.func 348) #[] #[.pointer (some ⟨Bm, 0, none⟩)]] w fun en w' => en = .returned (.slice none 0 0) ∧ Below w.heap.size w w' := by
  have hseq : SeqGives Fence.wide 2 Tryz.prog 348 #[.pointer (some ⟨Bm, 0, none⟩)] encZ (fun ss : List Int => ss = []) 0 w :=
    AnyZI.keys_gives_nil (ρ := Tryz.keysI348_ren) { Tryz.keysI348 with } Fence.wide _ trivial rfl Bm w hBm hm
  have cS := AnyZI.sorted_in Tryz.sortedI Fence.wide 5 trivial trivial trivial trivial rfl (by omega) (sortsI _) (enters_of Tryz.func347 (by kernel_rfl) rfl) 348 #[.pointer (some ⟨Bm, 0, none⟩)] trivial (enters_of Tryz.func348 (by kernel_rfl) rfl) _ 0 (Nat.zero_le _) (by omega) w hseq
  refine (callsIn_wide (n := 5)).1 (cS.mono ?_)
  rintro en w' ⟨v, ss, rfl, hS, _, hnil, hbel⟩
  exact ⟨by rw [hnil.2 hS], hbel⟩
set_option maxHeartbeats 1000000 in
theorem sortedI_360 {w : World} {Bm b clock : Nat} {es : Array MapEntry} (hBm : Bm < w.heap.size) (hm : w.cell? ⟨Bm, 0, none⟩ = some (.map (some b))) (hb : w.heap[b]? = some (.map es clock)) (hst : MapKept.Stamped es clock) (hk : ∀ x ∈ es.toList, ∃ n, x.key = .int .i64 n ∧ (Lit.int .i64 n).wf = true) (hsz : es.size ≤ 100000) :
    Calls Tryz.prog 246 #[.func (.func 360) #[] #[.pointer (some ⟨Bm, 0, none⟩)]] w fun en w' => ∃ (v : Value) (ss : List Int), en = .returned v ∧ ss.Perm (es.toList.map fun x => keyInt x.key) ∧ w'.ownsRow w.heap.size 3 1 v ss.length ((ss.mergeSort leI).map encZ) ∧ (v = .slice none 0 0 ↔ ss = []) ∧ Below w.heap.size w w' := by
  obtain ⟨D0, hown, hlen, hperm⟩ := own_ofI Tryz.underlying3 hb hst hk hsz
  have hmax : Maps.size D0 ≤ maxLen := by rw [hlen]; exact Nat.le_trans hsz (by decide)
  have hbytes : Maps.size D0 * 8 ≤ 140737488355328 := by rw [hlen]; omega
  have hseq : SeqGives Fence.wide 2 Tryz.prog 360 #[.pointer (some ⟨Bm, 0, none⟩)] encZ (fun ss => ss.Perm (intKeys D0)) (Maps.size D0) w :=
    AnyZI.keys_gives (ρ := Tryz.keysI360_ren) { Tryz.keysI360 with } Fence.wide _ trivial rfl (by omega) Bm b es.size D0 w hBm hm hown
  have cS := AnyZI.sorted_in Tryz.sortedI Fence.wide 5 trivial trivial trivial trivial rfl (by omega) (sortsI _) (enters_of Tryz.func347 (by kernel_rfl) rfl) 360 #[.pointer (some ⟨Bm, 0, none⟩)] trivial (enters_of Tryz.func360 (by kernel_rfl) rfl) _ _ hmax hbytes w hseq
  refine (callsIn_wide (n := 5)).1 (cS.mono ?_)
  rintro en w' ⟨v, ss, rfl, hS, hrow, hnil, hbel⟩
  exact ⟨v, ss, rfl, hS.trans hperm, hrow, hnil, hbel⟩
set_option maxHeartbeats 1000000 in
theorem sortedNilI_360 {w : World} {Bm : Nat} (hBm : Bm < w.heap.size) (hm : w.cell? ⟨Bm, 0, none⟩ = some (.map none)) :
    Calls Tryz.prog 246 #[.func (.func 360) #[] #[.pointer (some ⟨Bm, 0, none⟩)]] w fun en w' => en = .returned (.slice none 0 0) ∧ Below w.heap.size w w' := by
  have hseq : SeqGives Fence.wide 2 Tryz.prog 360 #[.pointer (some ⟨Bm, 0, none⟩)] encZ (fun ss : List Int => ss = []) 0 w :=
    AnyZI.keys_gives_nil (ρ := Tryz.keysI360_ren) { Tryz.keysI360 with } Fence.wide _ trivial rfl Bm w hBm hm
  have cS := AnyZI.sorted_in Tryz.sortedI Fence.wide 5 trivial trivial trivial trivial rfl (by omega) (sortsI _) (enters_of Tryz.func347 (by kernel_rfl) rfl) 360 #[.pointer (some ⟨Bm, 0, none⟩)] trivial (enters_of Tryz.func360 (by kernel_rfl) rfl) _ 0 (Nat.zero_le _) (by omega) w hseq
  refine (callsIn_wide (n := 5)).1 (cS.mono ?_)
  rintro en w' ⟨v, ss, rfl, hS, _, hnil, hbel⟩
  exact ⟨by rw [hnil.2 hS], hbel⟩
set_option maxHeartbeats 1000000 in
theorem sortedI_459 {w : World} {Bm b clock : Nat} {es : Array MapEntry} (hBm : Bm < w.heap.size) (hm : w.cell? ⟨Bm, 0, none⟩ = some (.map (some b))) (hb : w.heap[b]? = some (.map es clock)) (hst : MapKept.Stamped es clock) (hk : ∀ x ∈ es.toList, ∃ n, x.key = .int .i64 n ∧ (Lit.int .i64 n).wf = true) (hsz : es.size ≤ 100000) :
    Calls Tryz.prog 246 #[.func (.func 459) #[] #[.pointer (some ⟨Bm, 0, none⟩)]] w fun en w' => ∃ (v : Value) (ss : List Int), en = .returned v ∧ ss.Perm (es.toList.map fun x => keyInt x.key) ∧ w'.ownsRow w.heap.size 3 1 v ss.length ((ss.mergeSort leI).map encZ) ∧ (v = .slice none 0 0 ↔ ss = []) ∧ Below w.heap.size w w' := by
  obtain ⟨D0, hown, hlen, hperm⟩ := own_ofI Tryz.underlying3 hb hst hk hsz
  have hmax : Maps.size D0 ≤ maxLen := by rw [hlen]; exact Nat.le_trans hsz (by decide)
  have hbytes : Maps.size D0 * 8 ≤ 140737488355328 := by rw [hlen]; omega
  have hseq : SeqGives Fence.wide 2 Tryz.prog 459 #[.pointer (some ⟨Bm, 0, none⟩)] encZ (fun ss => ss.Perm (intKeys D0)) (Maps.size D0) w :=
    AnyZI.keys_gives (ρ := Tryz.keysI459_ren) { Tryz.keysI459 with } Fence.wide _ trivial rfl (by omega) Bm b es.size D0 w hBm hm hown
  have cS := AnyZI.sorted_in Tryz.sortedI Fence.wide 5 trivial trivial trivial trivial rfl (by omega) (sortsI _) (enters_of Tryz.func347 (by kernel_rfl) rfl) 459 #[.pointer (some ⟨Bm, 0, none⟩)] trivial (enters_of Tryz.func459 (by kernel_rfl) rfl) _ _ hmax hbytes w hseq
  refine (callsIn_wide (n := 5)).1 (cS.mono ?_)
  rintro en w' ⟨v, ss, rfl, hS, hrow, hnil, hbel⟩
  exact ⟨v, ss, rfl, hS.trans hperm, hrow, hnil, hbel⟩
set_option maxHeartbeats 1000000 in
theorem sortedNilI_459 {w : World} {Bm : Nat} (hBm : Bm < w.heap.size) (hm : w.cell? ⟨Bm, 0, none⟩ = some (.map none)) :
    Calls Tryz.prog 246 #[.func (.func 459) #[] #[.pointer (some ⟨Bm, 0, none⟩)]] w fun en w' => en = .returned (.slice none 0 0) ∧ Below w.heap.size w w' := by
  have hseq : SeqGives Fence.wide 2 Tryz.prog 459 #[.pointer (some ⟨Bm, 0, none⟩)] encZ (fun ss : List Int => ss = []) 0 w :=
    AnyZI.keys_gives_nil (ρ := Tryz.keysI459_ren) { Tryz.keysI459 with } Fence.wide _ trivial rfl Bm w hBm hm
  have cS := AnyZI.sorted_in Tryz.sortedI Fence.wide 5 trivial trivial trivial trivial rfl (by omega) (sortsI _) (enters_of Tryz.func347 (by kernel_rfl) rfl) 459 #[.pointer (some ⟨Bm, 0, none⟩)] trivial (enters_of Tryz.func459 (by kernel_rfl) rfl) _ 0 (Nat.zero_le _) (by omega) w hseq
  refine (callsIn_wide (n := 5)).1 (cS.mono ?_)
  rintro en w' ⟨v, ss, rfl, hS, _, hnil, hbel⟩
  exact ⟨by rw [hnil.2 hS], hbel⟩
theorem sortedAtI (w0 : Base) : SortedAtI Tryz.prog w0 246 3 isItI := by
  refine ⟨fun g hg w Bm b clock es _ hBm hm hb hst hk hsz => ?_, fun g hg w Bm _ hBm hm => ?_⟩
  · unfold isItI at hg
    simp only [Bool.or_eq_true] at hg
    rcases hg with (hg | hg) | hg
    · obtain rfl := Nat.eq_of_beq_eq_true hg; exact sortedI_348 hBm hm hb hst hk hsz
    · obtain rfl := Nat.eq_of_beq_eq_true hg; exact sortedI_360 hBm hm hb hst hk hsz
    · obtain rfl := Nat.eq_of_beq_eq_true hg; exact sortedI_459 hBm hm hb hst hk hsz
  · unfold isItI at hg
    simp only [Bool.or_eq_true] at hg
    rcases hg with (hg | hg) | hg
    · obtain rfl := Nat.eq_of_beq_eq_true hg; exact sortedNilI_348 hBm hm
    · obtain rfl := Nat.eq_of_beq_eq_true hg; exact sortedNilI_360 hBm hm
    · obtain rfl := Nat.eq_of_beq_eq_true hg; exact sortedNilI_459 hBm hm
theorem builderX : Builder.Extra Tryz.prog Tryz.lays105_ren where
  sizeBuilder := by kernel_rfl
  liesBuilder := by kernel_rfl
  t5 := Tryz.underlying5
  a5 := Tryz.isAgg5
  z5 := Tryz.sizeOf5
  v5 := Tryz.zeroValue5
  infoByte := by kernel_rfl
  cellsByte := by kernel_rfl
  sizeByte := by kernel_rfl
  neB5 := by decide
theorem repeat_at (w0 : Base) : RepeatAt Tryz.prog w0 54 := fun s c w _ hc hl => Any.strings_Repeat Tryz.lays105 builderX s c w (by omega) (by omega)
end Go.Proofs.YtooelpaaidnhiaaGreatDoor
