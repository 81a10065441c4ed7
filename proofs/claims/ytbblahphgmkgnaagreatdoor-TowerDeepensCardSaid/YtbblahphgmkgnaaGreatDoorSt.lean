/- Library functions at this program, by the library's contracts, laid: what slices.Sorted says of a map's keys; strings.Repeat. No conditions. -/
import Derived.Test.YtbblahphgmkgnaaGreatDoorVJ
import Derived.Test.YtbblahphgmkgnaaGreatDoorSg
namespace Go.Proofs.YtbblahphgmkgnaaGreatDoor
open Go.VM Go.RowKit Go.Maps Go.Sort Go.Shelf
theorem index_at (w0 : Base) : IndexAt Tryz.prog w0 454 := ⟨fun b off n c zs x w _ hz hb hc => AnyE.slices_Index (ρ := Tryz.idxX_ren) Tryz.idxX Value.bool (fun x y => x == y) (EqlAt.bool _ Tryz.underlying4) b off n c zs x w hz hb hc⟩
def isItS (g : Nat) : Bool := Nat.beq g 164 || Nat.beq g 237 || Nat.beq g 247 || Nat.beq g 343 || Nat.beq g 451 || Nat.beq g 530
theorem sortsS (m : Nat) : AnyZ.SortsIn Tryz.prog Tryz.sortedS_ren Fence.wide m :=
  ⟨fun blk off cap ss W hH hblk hsz => callsIn_wide.2 (AnyM.slices_Sort_string Tryz.sortS blk off cap ss W hH hblk hsz),
   fun p cap W => callsIn_wide.2 (AnyM.slices_Sort_string_none Tryz.sortS p cap W)⟩
set_option maxHeartbeats 1000000 in
theorem sortedS_164 {w : World} {Bm b clock : Nat} {es : Array MapEntry} (hBm : Bm < w.heap.size) (hm : w.cell? ⟨Bm, 0, none⟩ = some (.map (some b))) (hb : w.heap[b]? = some (.map es clock)) (hst : MapKept.Stamped es clock) (hk : ∀ x ∈ es.toList, ∃ s, x.key = .string s ∧ s.size ≤ 1000000) (hsz : es.size ≤ 100000) :
    Calls Tryz.prog 93 #[.func (.func 164) #[] #[.pointer (some ⟨Bm, 0, none⟩)]] w fun en w' => ∃ (v : Value) (ss : List (List UInt8)), en = .returned v ∧ ss.Perm (es.toList.map fun x => keyStr x.key) ∧ w'.ownsRow w.heap.size 9 1 v ss.length ((ss.mergeSort leB).map Go.Proofs.encStr) ∧ (v = .slice none 0 0 ↔ ss = []) ∧ Below w.heap.size w w' := by
  obtain ⟨D0, hown, hlen, hperm⟩ := own_of Tryz.underlying9 hb hst hk hsz
  have hmax : Maps.size D0 ≤ maxLen := by rw [hlen]; exact Nat.le_trans hsz (by decide)
  have hbytes : Maps.size D0 * 16 ≤ 140737488355328 := by rw [hlen]; omega
  have hseq : SeqGives Fence.wide 2 Tryz.prog 164 #[.pointer (some ⟨Bm, 0, none⟩)] Go.Proofs.encStr (fun ss => ss.Perm (strKeys D0)) (Maps.size D0) w :=
    AnyZ.keys_gives (ρ := Tryz.keysS164_ren) { Tryz.keysS164 with } Fence.wide _ trivial rfl (by omega) Bm b es.size D0 w hBm hm hown
  have cS := AnyZ.sorted_in Tryz.sortedS Fence.wide 5 trivial trivial trivial trivial rfl (by omega) (sortsS _) (enters_of Tryz.func163 (by kernel_rfl) rfl) 164 #[.pointer (some ⟨Bm, 0, none⟩)] trivial (enters_of Tryz.func164 (by kernel_rfl) rfl) _ _ hmax hbytes w hseq
  refine (callsIn_wide (n := 5)).1 (cS.mono ?_)
  rintro en w' ⟨v, ss, rfl, hS, hrow, hnil, hbel⟩
  exact ⟨v, ss, rfl, hS.trans hperm, hrow, hnil, hbel⟩
set_option maxHeartbeats 1000000 in
theorem sortedNilS_164 {w : World} {Bm : Nat} (hBm : Bm < w.heap.size) (hm : w.cell? ⟨Bm, 0, none⟩ = some (.map none)) :
    Calls Tryz.prog 93 #[.func (.func 164) #[] #[.pointer (some ⟨Bm, 0, none⟩)]] w fun en w' => en = .returned (.slice none 0 0) ∧ Below w.heap.size w w' := by
  have hseq : SeqGives Fence.wide 2 Tryz.prog 164 #[.pointer (some ⟨Bm, 0, none⟩)] Go.Proofs.encStr (fun ss : List (List UInt8) => ss = []) 0 w :=
    AnyZ.keys_gives_nil (ρ := Tryz.keysS164_ren) { Tryz.keysS164 with } Fence.wide _ trivial rfl Bm w hBm hm
  have cS := AnyZ.sorted_in Tryz.sortedS Fence.wide 5 trivial trivial trivial trivial rfl (by omega) (sortsS _) (enters_of Tryz.func163 (by kernel_rfl) rfl) 164 #[.pointer (some ⟨Bm, 0, none⟩)] trivial (enters_of Tryz.func164 (by kernel_rfl) rfl) _ 0 (Nat.zero_le _) (by omega) w hseq
  refine (callsIn_wide (n := 5)).1 (cS.mono ?_)
  rintro en w' ⟨v, ss, rfl, hS, _, hnil, hbel⟩
  exact ⟨by rw [hnil.2 hS], hbel⟩
set_option maxHeartbeats 1000000 in
theorem sortedS_237 {w : World} {Bm b clock : Nat} {es : Array MapEntry} (hBm : Bm < w.heap.size) (hm : w.cell? ⟨Bm, 0, none⟩ = some (.map (some b))) (hb : w.heap[b]? = some (.map es clock)) (hst : MapKept.Stamped es clock) (hk : ∀ x ∈ es.toList, ∃ s, x.key = .string s ∧ s.size ≤ 1000000) (hsz : es.size ≤ 100000) :
    Calls Tryz.prog 93 #[.func (.func 237) #[] #[.pointer (some ⟨Bm, 0, none⟩)]] w fun en w' => ∃ (v : Value) (ss : List (List UInt8)), en = .returned v ∧ ss.Perm (es.toList.map fun x => keyStr x.key) ∧ w'.ownsRow w.heap.size 9 1 v ss.length ((ss.mergeSort leB).map Go.Proofs.encStr) ∧ (v = .slice none 0 0 ↔ ss = []) ∧ Below w.heap.size w w' := by
  obtain ⟨D0, hown, hlen, hperm⟩ := own_of Tryz.underlying9 hb hst hk hsz
  have hmax : Maps.size D0 ≤ maxLen := by rw [hlen]; exact Nat.le_trans hsz (by decide)
  have hbytes : Maps.size D0 * 16 ≤ 140737488355328 := by rw [hlen]; omega
  have hseq : SeqGives Fence.wide 2 Tryz.prog 237 #[.pointer (some ⟨Bm, 0, none⟩)] Go.Proofs.encStr (fun ss => ss.Perm (strKeys D0)) (Maps.size D0) w :=
    AnyZ.keys_gives (ρ := Tryz.keysS237_ren) { Tryz.keysS237 with } Fence.wide _ trivial rfl (by omega) Bm b es.size D0 w hBm hm hown
  have cS := AnyZ.sorted_in Tryz.sortedS Fence.wide 5 trivial trivial trivial trivial rfl (by omega) (sortsS _) (enters_of Tryz.func163 (by kernel_rfl) rfl) 237 #[.pointer (some ⟨Bm, 0, none⟩)] trivial (enters_of Tryz.func237 (by kernel_rfl) rfl) _ _ hmax hbytes w hseq
  refine (callsIn_wide (n := 5)).1 (cS.mono ?_)
  rintro en w' ⟨v, ss, rfl, hS, hrow, hnil, hbel⟩
  exact ⟨v, ss, rfl, hS.trans hperm, hrow, hnil, hbel⟩
set_option maxHeartbeats 1000000 in
theorem sortedNilS_237 {w : World} {Bm : Nat} (hBm : Bm < w.heap.size) (hm : w.cell? ⟨Bm, 0, none⟩ = some (.map none)) :
    Calls Tryz.prog 93 #[.func (.func 237) #[] #[.pointer (some ⟨Bm, 0, none⟩)]] w fun en w' => en = .returned (.slice none 0 0) ∧ Below w.heap.size w w' := by
  have hseq : SeqGives Fence.wide 2 Tryz.prog 237 #[.pointer (some ⟨Bm, 0, none⟩)] Go.Proofs.encStr (fun ss : List (List UInt8) => ss = []) 0 w :=
    AnyZ.keys_gives_nil (ρ := Tryz.keysS237_ren) { Tryz.keysS237 with } Fence.wide _ trivial rfl Bm w hBm hm
  have cS := AnyZ.sorted_in Tryz.sortedS Fence.wide 5 trivial trivial trivial trivial rfl (by omega) (sortsS _) (enters_of Tryz.func163 (by kernel_rfl) rfl) 237 #[.pointer (some ⟨Bm, 0, none⟩)] trivial (enters_of Tryz.func237 (by kernel_rfl) rfl) _ 0 (Nat.zero_le _) (by omega) w hseq
  refine (callsIn_wide (n := 5)).1 (cS.mono ?_)
  rintro en w' ⟨v, ss, rfl, hS, _, hnil, hbel⟩
  exact ⟨by rw [hnil.2 hS], hbel⟩
set_option maxHeartbeats 1000000 in
theorem sortedS_247 {w : World} {Bm b clock : Nat} {es : Array MapEntry} (hBm : Bm < w.heap.size) (hm : w.cell? ⟨Bm, 0, none⟩ = some (.map (some b))) (hb : w.heap[b]? = some (.map es clock)) (hst : MapKept.Stamped es clock) (hk : ∀ x ∈ es.toList, ∃ s, x.key = .string s ∧ s.size ≤ 1000000) (hsz : es.size ≤ 100000) :
    Calls Tryz.prog 93 #[.func (.func 247) #[] #[.pointer (some ⟨Bm, 0, none⟩)]] w fun en w' => ∃ (v : Value) (ss : List (List UInt8)), en = .returned v ∧ ss.Perm (es.toList.map fun x => keyStr x.key) ∧ w'.ownsRow w.heap.size 9 1 v ss.length ((ss.mergeSort leB).map Go.Proofs.encStr) ∧ (v = .slice none 0 0 ↔ ss = []) ∧ Below w.heap.size w w' := by
  obtain ⟨D0, hown, hlen, hperm⟩ := own_of Tryz.underlying9 hb hst hk hsz
  have hmax : Maps.size D0 ≤ maxLen := by rw [hlen]; exact Nat.le_trans hsz (by decide)
  have hbytes : Maps.size D0 * 16 ≤ 140737488355328 := by rw [hlen]; omega
  have hseq : SeqGives Fence.wide 2 Tryz.prog 247 #[.pointer (some ⟨Bm, 0, none⟩)] Go.Proofs.encStr (fun ss => ss.Perm (strKeys D0)) (Maps.size D0) w :=
    AnyZ.keys_gives (ρ := Tryz.keysS247_ren) { Tryz.keysS247 with } Fence.wide _ trivial rfl (by omega) Bm b es.size D0 w hBm hm hown
  have cS := AnyZ.sorted_in Tryz.sortedS Fence.wide 5 trivial trivial trivial trivial rfl (by omega) (sortsS _) (enters_of Tryz.func163 (by kernel_rfl) rfl) 247 #[.pointer (some ⟨Bm, 0, none⟩)] trivial (enters_of Tryz.func247 (by kernel_rfl) rfl) _ _ hmax hbytes w hseq
  refine (callsIn_wide (n := 5)).1 (cS.mono ?_)
  rintro en w' ⟨v, ss, rfl, hS, hrow, hnil, hbel⟩
  exact ⟨v, ss, rfl, hS.trans hperm, hrow, hnil, hbel⟩
set_option maxHeartbeats 1000000 in
theorem sortedNilS_247 {w : World} {Bm : Nat} (hBm : Bm < w.heap.size) (hm : w.cell? ⟨Bm, 0, none⟩ = some (.map none)) :
    Calls Tryz.prog 93 #[.func (.func 247) #[] #[.pointer (some ⟨Bm, 0, none⟩)]] w fun en w' => en = .returned (.slice none 0 0) ∧ Below w.heap.size w w' := by
  have hseq : SeqGives Fence.wide 2 Tryz.prog 247 #[.pointer (some ⟨Bm, 0, none⟩)] Go.Proofs.encStr (fun ss : List (List UInt8) => ss = []) 0 w :=
    AnyZ.keys_gives_nil (ρ := Tryz.keysS247_ren) { Tryz.keysS247 with } Fence.wide _ trivial rfl Bm w hBm hm
  have cS := AnyZ.sorted_in Tryz.sortedS Fence.wide 5 trivial trivial trivial trivial rfl (by omega) (sortsS _) (enters_of Tryz.func163 (by kernel_rfl) rfl) 247 #[.pointer (some ⟨Bm, 0, none⟩)] trivial (enters_of Tryz.func247 (by kernel_rfl) rfl) _ 0 (Nat.zero_le _) (by omega) w hseq
  refine (callsIn_wide (n := 5)).1 (cS.mono ?_)
  rintro en w' ⟨v, ss, rfl, hS, _, hnil, hbel⟩
  exact ⟨by rw [hnil.2 hS], hbel⟩
set_option maxHeartbeats 1000000 in
theorem sortedS_343 {w : World} {Bm b clock : Nat} {es : Array MapEntry} (hBm : Bm < w.heap.size) (hm : w.cell? ⟨Bm, 0, none⟩ = some (.map (some b))) (hb : w.heap[b]? = some (.map es clock)) (hst : MapKept.Stamped es clock) (hk : ∀ x ∈ es.toList, ∃ s, x.key = .string s ∧ s.size ≤ 1000000) (hsz : es.size ≤ 100000) :
    Calls Tryz.prog 93 #[.func (.func 343) #[] #[.pointer (some ⟨Bm, 0, none⟩)]] w fun en w' => ∃ (v : Value) (ss : List (List UInt8)), en = .returned v ∧ ss.Perm (es.toList.map fun x => keyStr x.key) ∧ w'.ownsRow w.heap.size 9 1 v ss.length ((ss.mergeSort leB).map Go.Proofs.encStr) ∧ (v = .slice none 0 0 ↔ ss = []) ∧ Below w.heap.size w w' := by
  obtain ⟨D0, hown, hlen, hperm⟩ := own_of Tryz.underlying9 hb hst hk hsz
  have hmax : Maps.size D0 ≤ maxLen := by rw [hlen]; exact Nat.le_trans hsz (by decide)
  have hbytes : Maps.size D0 * 16 ≤ 140737488355328 := by rw [hlen]; omega
  have hseq : SeqGives Fence.wide 2 Tryz.prog 343 #[.pointer (some ⟨Bm, 0, none⟩)] Go.Proofs.encStr (fun ss => ss.Perm (strKeys D0)) (Maps.size D0) w :=
    AnyZ.keys_gives (ρ := Tryz.keysS343_ren) { Tryz.keysS343 with } Fence.wide _ trivial rfl (by omega) Bm b es.size D0 w hBm hm hown
  have cS := AnyZ.sorted_in Tryz.sortedS Fence.wide 5 trivial trivial trivial trivial rfl (by omega) (sortsS _) (enters_of Tryz.func163 (by kernel_rfl) rfl) 343 #[.pointer (some ⟨Bm, 0, none⟩)] trivial (enters_of Tryz.func343 (by kernel_rfl) rfl) _ _ hmax hbytes w hseq
  refine (callsIn_wide (n := 5)).1 (cS.mono ?_)
  rintro en w' ⟨v, ss, rfl, hS, hrow, hnil, hbel⟩
  exact ⟨v, ss, rfl, hS.trans hperm, hrow, hnil, hbel⟩
set_option maxHeartbeats 1000000 in
theorem sortedNilS_343 {w : World} {Bm : Nat} (hBm : Bm < w.heap.size) (hm : w.cell? ⟨Bm, 0, none⟩ = some (.map none)) :
    Calls Tryz.prog 93 #[.func (.func 343) #[] #[.pointer (some ⟨Bm, 0, none⟩)]] w fun en w' => en = .returned (.slice none 0 0) ∧ Below w.heap.size w w' := by
  have hseq : SeqGives Fence.wide 2 Tryz.prog 343 #[.pointer (some ⟨Bm, 0, none⟩)] Go.Proofs.encStr (fun ss : List (List UInt8) => ss = []) 0 w :=
    AnyZ.keys_gives_nil (ρ := Tryz.keysS343_ren) { Tryz.keysS343 with } Fence.wide _ trivial rfl Bm w hBm hm
  have cS := AnyZ.sorted_in Tryz.sortedS Fence.wide 5 trivial trivial trivial trivial rfl (by omega) (sortsS _) (enters_of Tryz.func163 (by kernel_rfl) rfl) 343 #[.pointer (some ⟨Bm, 0, none⟩)] trivial (enters_of Tryz.func343 (by kernel_rfl) rfl) _ 0 (Nat.zero_le _) (by omega) w hseq
  refine (callsIn_wide (n := 5)).1 (cS.mono ?_)
  rintro en w' ⟨v, ss, rfl, hS, _, hnil, hbel⟩
  exact ⟨by rw [hnil.2 hS], hbel⟩
set_option maxHeartbeats 1000000 in
theorem sortedS_451 {w : World} {Bm b clock : Nat} {es : Array MapEntry} (hBm : Bm < w.heap.size) (hm : w.cell? ⟨Bm, 0, none⟩ = some (.map (some b))) (hb : w.heap[b]? = some (.map es clock)) (hst : MapKept.Stamped es clock) (hk : ∀ x ∈ es.toList, ∃ s, x.key = .string s ∧ s.size ≤ 1000000) (hsz : es.size ≤ 100000) :
    Calls Tryz.prog 93 #[.func (.func 451) #[] #[.pointer (some ⟨Bm, 0, none⟩)]] w fun en w' => ∃ (v : Value) (ss : List (List UInt8)), en = .returned v ∧ ss.Perm (es.toList.map fun x => keyStr x.key) ∧ w'.ownsRow w.heap.size 9 1 v ss.length ((ss.mergeSort leB).map Go.Proofs.encStr) ∧ (v = .slice none 0 0 ↔ ss = []) ∧ Below w.heap.size w w' := by
  obtain ⟨D0, hown, hlen, hperm⟩ := own_of Tryz.underlying9 hb hst hk hsz
  have hmax : Maps.size D0 ≤ maxLen := by rw [hlen]; exact Nat.le_trans hsz (by decide)
  have hbytes : Maps.size D0 * 16 ≤ 140737488355328 := by rw [hlen]; omega
  have hseq : SeqGives Fence.wide 2 Tryz.prog 451 #[.pointer (some ⟨Bm, 0, none⟩)] Go.Proofs.encStr (fun ss => ss.Perm (strKeys D0)) (Maps.size D0) w :=
    AnyZ.keys_gives (ρ := Tryz.keysS451_ren) { Tryz.keysS451 with } Fence.wide _ trivial rfl (by omega) Bm b es.size D0 w hBm hm hown
  have cS := AnyZ.sorted_in Tryz.sortedS Fence.wide 5 trivial trivial trivial trivial rfl (by omega) (sortsS _) (enters_of Tryz.func163 (by kernel_rfl) rfl) 451 #[.pointer (some ⟨Bm, 0, none⟩)] trivial (enters_of Tryz.func451 (by kernel_rfl) rfl) _ _ hmax hbytes w hseq
  refine (callsIn_wide (n := 5)).1 (cS.mono ?_)
  rintro en w' ⟨v, ss, rfl, hS, hrow, hnil, hbel⟩
  exact ⟨v, ss, rfl, hS.trans hperm, hrow, hnil, hbel⟩
set_option maxHeartbeats 1000000 in
theorem sortedNilS_451 {w : World} {Bm : Nat} (hBm : Bm < w.heap.size) (hm : w.cell? ⟨Bm, 0, none⟩ = some (.map none)) :
    Calls Tryz.prog 93 #[.func (.func 451) #[] #[.pointer (some ⟨Bm, 0, none⟩)]] w fun en w' => en = .returned (.slice none 0 0) ∧ Below w.heap.size w w' := by
  have hseq : SeqGives Fence.wide 2 Tryz.prog 451 #[.pointer (some ⟨Bm, 0, none⟩)] Go.Proofs.encStr (fun ss : List (List UInt8) => ss = []) 0 w :=
    AnyZ.keys_gives_nil (ρ := Tryz.keysS451_ren) { Tryz.keysS451 with } Fence.wide _ trivial rfl Bm w hBm hm
  have cS := AnyZ.sorted_in Tryz.sortedS Fence.wide 5 trivial trivial trivial trivial rfl (by omega) (sortsS _) (enters_of Tryz.func163 (by kernel_rfl) rfl) 451 #[.pointer (some ⟨Bm, 0, none⟩)] trivial (enters_of Tryz.func451 (by kernel_rfl) rfl) _ 0 (Nat.zero_le _) (by omega) w hseq
  refine (callsIn_wide (n := 5)).1 (cS.mono ?_)
  rintro en w' ⟨v, ss, rfl, hS, _, hnil, hbel⟩
  exact ⟨by rw [hnil.2 hS], hbel⟩
set_option maxHeartbeats 1000000 in
theorem sortedS_530 {w : World} {Bm b clock : Nat} {es : Array MapEntry} (hBm : Bm < w.heap.size) (hm : w.cell? ⟨Bm, 0, none⟩ = some (.map (some b))) (hb : w.heap[b]? = some (.map es clock)) (hst : MapKept.Stamped es clock) (hk : ∀ x ∈ es.toList, ∃ s, x.key = .string s ∧ s.size ≤ 1000000) (hsz : es.size ≤ 100000) :
    Calls Tryz.prog 93 #[.func (.func 530) #[] #[.pointer (some ⟨Bm, 0, none⟩)]] w fun en w' => ∃ (v : Value) (ss : List (List UInt8)), en = .returned v ∧ ss.Perm (es.toList.map fun x => keyStr x.key) ∧ w'.ownsRow w.heap.size 9 1 v ss.length ((ss.mergeSort leB).map Go.Proofs.encStr) ∧ (v = .slice none 0 0 ↔ ss = []) ∧ Below w.heap.size w w' := by
  obtain ⟨D0, hown, hlen, hperm⟩ := own_of Tryz.underlying9 hb hst hk hsz
  have hmax : Maps.size D0 ≤ maxLen := by rw [hlen]; exact Nat.le_trans hsz (by decide)
  have hbytes : Maps.size D0 * 16 ≤ 140737488355328 := by rw [hlen]; omega
  have hseq : SeqGives Fence.wide 2 Tryz.prog 530 #[.pointer (some ⟨Bm, 0, none⟩)] Go.Proofs.encStr (fun ss => ss.Perm (strKeys D0)) (Maps.size D0) w :=
    AnyZ.keys_gives (ρ := Tryz.keysS530_ren) { Tryz.keysS530 with } Fence.wide _ trivial rfl (by omega) Bm b es.size D0 w hBm hm hown
  have cS := AnyZ.sorted_in Tryz.sortedS Fence.wide 5 trivial trivial trivial trivial rfl (by omega) (sortsS _) (enters_of Tryz.func163 (by kernel_rfl) rfl) 530 #[.pointer (some ⟨Bm, 0, none⟩)] trivial (enters_of Tryz.func530 (by kernel_rfl) rfl) _ _ hmax hbytes w hseq
  refine (callsIn_wide (n := 5)).1 (cS.mono ?_)
  rintro en w' ⟨v, ss, rfl, hS, hrow, hnil, hbel⟩
  exact ⟨v, ss, rfl, hS.trans hperm, hrow, hnil, hbel⟩
set_option maxHeartbeats 1000000 in
theorem sortedNilS_530 {w : World} {Bm : Nat} (hBm : Bm < w.heap.size) (hm : w.cell? ⟨Bm, 0, none⟩ = some (.map none)) :
    Calls Tryz.prog 93 #[.func (.func 530) #[] #[.pointer (some ⟨Bm, 0, none⟩)]] w fun en w' => en = .returned (.slice none 0 0) ∧ Below w.heap.size w w' := by
  have hseq : SeqGives Fence.wide 2 Tryz.prog 530 #[.pointer (some ⟨Bm, 0, none⟩)] Go.Proofs.encStr (fun ss : List (List UInt8) => ss = []) 0 w :=
    AnyZ.keys_gives_nil (ρ := Tryz.keysS530_ren) { Tryz.keysS530 with } Fence.wide _ trivial rfl Bm w hBm hm
  have cS := AnyZ.sorted_in Tryz.sortedS Fence.wide 5 trivial trivial trivial trivial rfl (by omega) (sortsS _) (enters_of Tryz.func163 (by kernel_rfl) rfl) 530 #[.pointer (some ⟨Bm, 0, none⟩)] trivial (enters_of Tryz.func530 (by kernel_rfl) rfl) _ 0 (Nat.zero_le _) (by omega) w hseq
  refine (callsIn_wide (n := 5)).1 (cS.mono ?_)
  rintro en w' ⟨v, ss, rfl, hS, _, hnil, hbel⟩
  exact ⟨by rw [hnil.2 hS], hbel⟩
theorem sortedAtS (w0 : Base) : SortedAt Tryz.prog w0 93 9 isItS := by
  refine ⟨fun g hg w Bm b clock es _ hBm hm hb hst hk hsz => ?_, fun g hg w Bm _ hBm hm => ?_⟩
  · unfold isItS at hg
    simp only [Bool.or_eq_true] at hg
    rcases hg with ((((hg | hg) | hg) | hg) | hg) | hg
    · obtain rfl := Nat.eq_of_beq_eq_true hg; exact sortedS_164 hBm hm hb hst hk hsz
    · obtain rfl := Nat.eq_of_beq_eq_true hg; exact sortedS_237 hBm hm hb hst hk hsz
    · obtain rfl := Nat.eq_of_beq_eq_true hg; exact sortedS_247 hBm hm hb hst hk hsz
    · obtain rfl := Nat.eq_of_beq_eq_true hg; exact sortedS_343 hBm hm hb hst hk hsz
    · obtain rfl := Nat.eq_of_beq_eq_true hg; exact sortedS_451 hBm hm hb hst hk hsz
    · obtain rfl := Nat.eq_of_beq_eq_true hg; exact sortedS_530 hBm hm hb hst hk hsz
  · unfold isItS at hg
    simp only [Bool.or_eq_true] at hg
    rcases hg with ((((hg | hg) | hg) | hg) | hg) | hg
    · obtain rfl := Nat.eq_of_beq_eq_true hg; exact sortedNilS_164 hBm hm
    · obtain rfl := Nat.eq_of_beq_eq_true hg; exact sortedNilS_237 hBm hm
    · obtain rfl := Nat.eq_of_beq_eq_true hg; exact sortedNilS_247 hBm hm
    · obtain rfl := Nat.eq_of_beq_eq_true hg; exact sortedNilS_343 hBm hm
    · obtain rfl := Nat.eq_of_beq_eq_true hg; exact sortedNilS_451 hBm hm
    · obtain rfl := Nat.eq_of_beq_eq_true hg; exact sortedNilS_530 hBm hm
def isItI (g : Nat) : Bool := Nat.beq g 346 || Nat.beq g 358 || Nat.beq g 457
theorem sortsI (m : Nat) : AnyZI.SortsIn Tryz.prog Tryz.sortedI_ren Fence.wide m :=
  ⟨fun blk off cap ss W hH hblk hsz => callsIn_wide.2 (AnyM.slices_Sort_int Tryz.sortI blk off cap ss W hH hblk hsz),
   fun p cap W => callsIn_wide.2 (AnyM.slices_Sort_int_none Tryz.sortI p cap W)⟩
set_option maxHeartbeats 1000000 in
theorem sortedI_346 {w : World} {Bm b clock : Nat} {es : Array MapEntry} (hBm : Bm < w.heap.size) (hm : w.cell? ⟨Bm, 0, none⟩ = some (.map (some b))) (hb : w.heap[b]? = some (.map es clock)) (hst : MapKept.Stamped es clock) (hk : ∀ x ∈ es.toList, ∃ n, x.key = .int .i64 n ∧ (Lit.int .i64 n).wf = true) (hsz : es.size ≤ 100000) :
    Calls Tryz.prog 244 #[.func (.func 346) #[] #[.pointer (some ⟨Bm, 0, none⟩)]] w fun en w' => ∃ (v : Value) (ss : List Int), en = .returned v ∧ ss.Perm (es.toList.map fun x => keyInt x.key) ∧ w'.ownsRow w.heap.size 3 1 v ss.length ((ss.mergeSort leI).map encZ) ∧ (v = .slice none 0 0 ↔ ss = []) ∧ Below w.heap.size w w' := by
  obtain ⟨D0, hown, hlen, hperm⟩ := own_ofI Tryz.underlying3 hb hst hk hsz
  have hmax : Maps.size D0 ≤ maxLen := by rw [hlen]; exact Nat.le_trans hsz (by decide)
  have hbytes : Maps.size D0 * 8 ≤ 140737488355328 := by rw [hlen]; omega
  have hseq : SeqGives Fence.wide 2 Tryz.prog 346 #[.pointer (some ⟨Bm, 0, none⟩)] encZ (fun ss => ss.Perm (intKeys D0)) (Maps.size D0) w :=
    AnyZI.keys_gives (ρ := Tryz.keysI346_ren) { Tryz.keysI346 with } Fence.wide _ trivial rfl (by omega) Bm b es.size D0 w hBm hm hown
  have cS := AnyZI.sorted_in Tryz.sortedI Fence.wide 5 trivial trivial trivial trivial rfl (by omega) (sortsI _) (enters_of Tryz.func345 (by kernel_rfl) rfl) 346 #[.pointer (some ⟨Bm, 0, none⟩)] trivial (enters_of Tryz.func346 (by kernel_rfl) rfl) _ _ hmax hbytes w hseq
  refine (callsIn_wide (n := 5)).1 (cS.mono ?_)
  rintro en w' ⟨v, ss, rfl, hS, hrow, hnil, hbel⟩
  exact ⟨v, ss, rfl, hS.trans hperm, hrow, hnil, hbel⟩
set_option maxHeartbeats 1000000 in
theorem sortedNilI_346 {w : World} {Bm : Nat} (hBm : Bm < w.heap.size) (hm : w.cell? ⟨Bm, 0, none⟩ = some (.map none)) :
    Calls Tryz.prog 244 #[.func (.func 346) #[] #[.pointer (some ⟨Bm, 0, none⟩)]] w fun en w' => en = .returned (.slice none 0 0) ∧ Below w.heap.size w w' := by
  have hseq : SeqGives Fence.wide 2 Tryz.prog 346 #[.pointer (some ⟨Bm, 0, none⟩)] encZ (fun ss : List Int => ss = []) 0 w :=
    AnyZI.keys_gives_nil (ρ := Tryz.keysI346_ren) { Tryz.keysI346 with } Fence.wide _ trivial rfl Bm w hBm hm
  have cS := AnyZI.sorted_in Tryz.sortedI Fence.wide 5 trivial trivial trivial trivial rfl (by omega) (sortsI _) (enters_of Tryz.func345 (by kernel_rfl) rfl) 346 #[.pointer (some ⟨Bm, 0, none⟩)] trivial (enters_of Tryz.func346 (by kernel_rfl) rfl) _ 0 (Nat.zero_le _) (by omega) w hseq
  refine (callsIn_wide (n := 5)).1 (cS.mono ?_)
  rintro en w' ⟨v, ss, rfl, hS, _, hnil, hbel⟩
  exact ⟨by rw [hnil.2 hS], hbel⟩
set_option maxHeartbeats 1000000 in
theorem sortedI_358 {w : World} {Bm b clock : Nat} {es : Array MapEntry} (hBm : Bm < w.heap.size) (hm : w.cell? ⟨Bm, 0, none⟩ = some (.map (some b))) (hb : w.heap[b]? = some (.map es clock)) (hst : MapKept.Stamped es clock) (hk : ∀ x ∈ es.toList, ∃ n, x.key = .int .i64 n ∧ (Lit.int .i64 n).wf = true) (hsz : es.size ≤ 100000) :
    Calls Tryz.prog 244 #[.func (.func 358) #[] #[.pointer (some ⟨Bm, 0, none⟩)]] w fun en w' => ∃ (v : Value) (ss : List Int), en = .returned v ∧ ss.Perm (es.toList.map fun x => keyInt x.key) ∧ w'.ownsRow w.heap.size 3 1 v ss.length ((ss.mergeSort leI).map encZ) ∧ (v = .slice none 0 0 ↔ ss = []) ∧ Below w.heap.size w w' := by
  obtain ⟨D0, hown, hlen, hperm⟩ := own_ofI Tryz.underlying3 hb hst hk hsz
  have hmax : Maps.size D0 ≤ maxLen := by rw [hlen]; exact Nat.le_trans hsz (by decide)
  have hbytes : Maps.size D0 * 8 ≤ 140737488355328 := by rw [hlen]; omega
  have hseq : SeqGives Fence.wide 2 Tryz.prog 358 #[.pointer (some ⟨Bm, 0, none⟩)] encZ (fun ss => ss.Perm (intKeys D0)) (Maps.size D0) w :=
    AnyZI.keys_gives (ρ := Tryz.keysI358_ren) { Tryz.keysI358 with } Fence.wide _ trivial rfl (by omega) Bm b es.size D0 w hBm hm hown
  have cS := AnyZI.sorted_in Tryz.sortedI Fence.wide 5 trivial trivial trivial trivial rfl (by omega) (sortsI _) (enters_of Tryz.func345 (by kernel_rfl) rfl) 358 #[.pointer (some ⟨Bm, 0, none⟩)] trivial (enters_of Tryz.func358 (by kernel_rfl) rfl) _ _ hmax hbytes w hseq
  refine (callsIn_wide (n := 5)).1 (cS.mono ?_)
  rintro en w' ⟨v, ss, rfl, hS, hrow, hnil, hbel⟩
  exact ⟨v, ss, rfl, hS.trans hperm, hrow, hnil, hbel⟩
set_option maxHeartbeats 1000000 in
theorem sortedNilI_358 {w : World} {Bm : Nat} (hBm : Bm < w.heap.size) (hm : w.cell? ⟨Bm, 0, none⟩ = some (.map none)) :
    Calls Tryz.prog 244 #[.func (.func 358) #[] #[.pointer (some ⟨Bm, 0, none⟩)]] w fun en w' => en = .returned (.slice none 0 0) ∧ Below w.heap.size w w' := by
  have hseq : SeqGives Fence.wide 2 Tryz.prog 358 #[.pointer (some ⟨Bm, 0, none⟩)] encZ (fun ss : List Int => ss = []) 0 w :=
    AnyZI.keys_gives_nil (ρ := Tryz.keysI358_ren) { Tryz.keysI358 with } Fence.wide _ trivial rfl Bm w hBm hm
  have cS := AnyZI.sorted_in Tryz.sortedI Fence.wide 5 trivial trivial trivial trivial rfl (by omega) (sortsI _) (enters_of Tryz.func345 (by kernel_rfl) rfl) 358 #[.pointer (some ⟨Bm, 0, none⟩)] trivial (enters_of Tryz.func358 (by kernel_rfl) rfl) _ 0 (Nat.zero_le _) (by omega) w hseq
  refine (callsIn_wide (n := 5)).1 (cS.mono ?_)
  rintro en w' ⟨v, ss, rfl, hS, _, hnil, hbel⟩
  exact ⟨by rw [hnil.2 hS], hbel⟩
set_option maxHeartbeats 1000000 in
theorem sortedI_457 {w : World} {Bm b clock : Nat} {es : Array MapEntry} (hBm : Bm < w.heap.size) (hm : w.cell? ⟨Bm, 0, none⟩ = some (.map (some b))) (hb : w.heap[b]? = some (.map es clock)) (hst : MapKept.Stamped es clock) (hk : ∀ x ∈ es.toList, ∃ n, x.key = .int .i64 n ∧ (Lit.int .i64 n).wf = true) (hsz : es.size ≤ 100000) :
    Calls Tryz.prog 244 #[.func (.func 457) #[] #[.pointer (some ⟨Bm, 0, none⟩)]] w fun en w' => ∃ (v : Value) (ss : List Int), en = .returned v ∧ ss.Perm (es.toList.map fun x => keyInt x.key) ∧ w'.ownsRow w.heap.size 3 1 v ss.length ((ss.mergeSort leI).map encZ) ∧ (v = .slice none 0 0 ↔ ss = []) ∧ Below w.heap.size w w' := by
  obtain ⟨D0, hown, hlen, hperm⟩ := own_ofI Tryz.underlying3 hb hst hk hsz
  have hmax : Maps.size D0 ≤ maxLen := by rw [hlen]; exact Nat.le_trans hsz (by decide)
  have hbytes : Maps.size D0 * 8 ≤ 140737488355328 := by rw [hlen]; omega
  have hseq : SeqGives Fence.wide 2 Tryz.prog 457 #[.pointer (some ⟨Bm, 0, none⟩)] encZ (fun ss => ss.Perm (intKeys D0)) (Maps.size D0) w :=
    AnyZI.keys_gives (ρ := Tryz.keysI457_ren) { Tryz.keysI457 with } Fence.wide _ trivial rfl (by omega) Bm b es.size D0 w hBm hm hown
  have cS := AnyZI.sorted_in Tryz.sortedI Fence.wide 5 trivial trivial trivial trivial rfl (by omega) (sortsI _) (enters_of Tryz.func345 (by kernel_rfl) rfl) 457 #[.pointer (some ⟨Bm, 0, none⟩)] trivial (enters_of Tryz.func457 (by kernel_rfl) rfl) _ _ hmax hbytes w hseq
  refine (callsIn_wide (n := 5)).1 (cS.mono ?_)
  rintro en w' ⟨v, ss, rfl, hS, hrow, hnil, hbel⟩
  exact ⟨v, ss, rfl, hS.trans hperm, hrow, hnil, hbel⟩
set_option maxHeartbeats 1000000 in
theorem sortedNilI_457 {w : World} {Bm : Nat} (hBm : Bm < w.heap.size) (hm : w.cell? ⟨Bm, 0, none⟩ = some (.map none)) :
    Calls Tryz.prog 244 #[.func (.func 457) #[] #[.pointer (some ⟨Bm, 0, none⟩)]] w fun en w' => en = .returned (.slice none 0 0) ∧ Below w.heap.size w w' := by
  have hseq : SeqGives Fence.wide 2 Tryz.prog 457 #[.pointer (some ⟨Bm, 0, none⟩)] encZ (fun ss : List Int => ss = []) 0 w :=
    AnyZI.keys_gives_nil (ρ := Tryz.keysI457_ren) { Tryz.keysI457 with } Fence.wide _ trivial rfl Bm w hBm hm
  have cS := AnyZI.sorted_in Tryz.sortedI Fence.wide 5 trivial trivial trivial trivial rfl (by omega) (sortsI _) (enters_of Tryz.func345 (by kernel_rfl) rfl) 457 #[.pointer (some ⟨Bm, 0, none⟩)] trivial (enters_of Tryz.func457 (by kernel_rfl) rfl) _ 0 (Nat.zero_le _) (by omega) w hseq
  refine (callsIn_wide (n := 5)).1 (cS.mono ?_)
  rintro en w' ⟨v, ss, rfl, hS, _, hnil, hbel⟩
  exact ⟨by rw [hnil.2 hS], hbel⟩
theorem sortedAtI (w0 : Base) : SortedAtI Tryz.prog w0 244 3 isItI := by
  refine ⟨fun g hg w Bm b clock es _ hBm hm hb hst hk hsz => ?_, fun g hg w Bm _ hBm hm => ?_⟩
  · unfold isItI at hg
    simp only [Bool.or_eq_true] at hg
    rcases hg with (hg | hg) | hg
    · obtain rfl := Nat.eq_of_beq_eq_true hg; exact sortedI_346 hBm hm hb hst hk hsz
    · obtain rfl := Nat.eq_of_beq_eq_true hg; exact sortedI_358 hBm hm hb hst hk hsz
    · obtain rfl := Nat.eq_of_beq_eq_true hg; exact sortedI_457 hBm hm hb hst hk hsz
  · unfold isItI at hg
    simp only [Bool.or_eq_true] at hg
    rcases hg with (hg | hg) | hg
    · obtain rfl := Nat.eq_of_beq_eq_true hg; exact sortedNilI_346 hBm hm
    · obtain rfl := Nat.eq_of_beq_eq_true hg; exact sortedNilI_358 hBm hm
    · obtain rfl := Nat.eq_of_beq_eq_true hg; exact sortedNilI_457 hBm hm
theorem builderX : Builder.Extra Tryz.prog Tryz.lays105_ren where
  sizeBuilder := by kernel_rfl
  liesBuilder := by kernel_rfl
  t5 := Tryz.underlying5
  a5 := Tryz.isAgg5
  z5 := Tryz.sizeOf5
  v5 := Tryz.zeroValue5
  infoByte := by kernel_rfl
  cellsByte := by kernel_rfl
  sizeByte := by kernel_rfl
  neB5 := by decide
theorem repeat_at (w0 : Base) : RepeatAt Tryz.prog w0 52 := fun s c w _ hc hl => Any.strings_Repeat Tryz.lays105 builderX s c w (by omega) (by omega)
end Go.Proofs.YtbblahphgmkgnaaGreatDoor
