/- Library functions at this program, by the library's contracts, laid: what slices.Sorted says of a map's keys; strings.Repeat. No conditions. -/
import Derived.Test.YtdeahggaclcldaaGreatVI
import Derived.Test.YtdeahggaclcldaaGreatSg
namespace Go.Proofs.YtdeahggaclcldaaGreat
open Go.VM Go.RowKit Go.Maps Go.Sort Go.Shelf
def isItS (g : Nat) : Bool := Nat.beq g 82 || Nat.beq g 116
theorem sortsS (m : Nat) : AnyZ.SortsIn Tryz.prog Tryz.sortedS_ren Fence.wide m :=
  ⟨fun blk off cap ss W hH hblk hsz => callsIn_wide.2 (AnyM.slices_Sort_string Tryz.sortS blk off cap ss W hH hblk hsz),
   fun p cap W => callsIn_wide.2 (AnyM.slices_Sort_string_none Tryz.sortS p cap W)⟩
set_option maxHeartbeats 1000000 in
theorem sortedS_82 {w : World} {Bm b clock : Nat} {es : Array MapEntry} (hBm : Bm < w.heap.size) (hm : w.cell? ⟨Bm, 0, none⟩ = some (.map (some b))) (hb : w.heap[b]? = some (.map es clock)) (hst : MapKept.Stamped es clock) (hk : ∀ x ∈ es.toList, ∃ s, x.key = .string s ∧ s.size ≤ 1000000) (hsz : es.size ≤ 100000) :
    Calls Tryz.prog 53 #[.func (.func 82) #[] #[.pointer (some ⟨Bm, 0, none⟩)]] w fun en w' => ∃ (v : Value) (ss : List (List UInt8)), en = .returned v ∧ ss.Perm (es.toList.map fun x => keyStr x.key) ∧ w'.ownsRow w.heap.size 9 1 v ss.length ((ss.mergeSort leB).map Go.Proofs.encStr) ∧ (v = .slice none 0 0 ↔ ss = []) ∧ Below w.heap.size w w' := by
  obtain ⟨D0, hown, hlen, hperm⟩ := own_of Tryz.underlying9 hb hst hk hsz
  have hmax : Maps.size D0 ≤ maxLen := by rw [hlen]; exact Nat.le_trans hsz (by decide)
  have hbytes : Maps.size D0 * 16 ≤ 140737488355328 := by rw [hlen]; omega
  have hseq : SeqGives Fence.wide 2 Tryz.prog 82 #[.pointer (some ⟨Bm, 0, none⟩)] Go.Proofs.encStr (fun ss => ss.Perm (strKeys D0)) (Maps.size D0) w :=
    AnyZ.keys_gives (ρ := Tryz.keysS82_ren) { Tryz.keysS82 with } Fence.wide _ trivial rfl (by omega) Bm b es.size D0 w hBm hm hown
  have cS := AnyZ.sorted_in Tryz.sortedS Fence.wide 5 trivial trivial trivial trivial rfl (by omega) (sortsS _) (enters_of Tryz.func81 (by kernel_rfl) rfl) 82 #[.pointer (some ⟨Bm, 0, none⟩)] trivial (enters_of Tryz.func82 (by kernel_rfl) rfl) _ _ hmax hbytes w hseq
  refine (callsIn_wide (n := 5)).1 (cS.mono ?_)
  rintro en w' ⟨v, ss, rfl, hS, hrow, hnil, hbel⟩
  exact ⟨v, ss, rfl, hS.trans hperm, hrow, hnil, hbel⟩
set_option maxHeartbeats 1000000 in
theorem sortedNilS_82 {w : World} {Bm : Nat} (hBm : Bm < w.heap.size) (hm : w.cell? ⟨Bm, 0, none⟩ = some (.map none)) :
    Calls Tryz.prog 53 #[.func (.func 82) #[] #[.pointer (some ⟨Bm, 0, none⟩)]] w fun en w' => en = .returned (.slice none 0 0) ∧ Below w.heap.size w w' := by
  have hseq : SeqGives Fence.wide 2 Tryz.prog 82 #[.pointer (some ⟨Bm, 0, none⟩)] Go.Proofs.encStr (fun ss : List (List UInt8) => ss = []) 0 w :=
    AnyZ.keys_gives_nil (ρ := Tryz.keysS82_ren) { Tryz.keysS82 with } Fence.wide _ trivial rfl Bm w hBm hm
  have cS := AnyZ.sorted_in Tryz.sortedS Fence.wide 5 trivial trivial trivial trivial rfl (by omega) (sortsS _) (enters_of Tryz.func81 (by kernel_rfl) rfl) 82 #[.pointer (some ⟨Bm, 0, none⟩)] trivial (enters_of Tryz.func82 (by kernel_rfl) rfl) _ 0 (Nat.zero_le _) (by omega) w hseq
  refine (callsIn_wide (n := 5)).1 (cS.mono ?_)
  rintro en w' ⟨v, ss, rfl, hS, _, hnil, hbel⟩
  exact ⟨by rw [hnil.2 hS], hbel⟩
set_option maxHeartbeats 1000000 in
theorem sortedS_116 {w : World} {Bm b clock : Nat} {es : Array MapEntry} (hBm : Bm < w.heap.size) (hm : w.cell? ⟨Bm, 0, none⟩ = some (.map (some b))) (hb : w.heap[b]? = some (.map es clock)) (hst : MapKept.Stamped es clock) (hk : ∀ x ∈ es.toList, ∃ s, x.key = .string s ∧ s.size ≤ 1000000) (hsz : es.size ≤ 100000) :
    Calls Tryz.prog 53 #[.func (.func 116) #[] #[.pointer (some ⟨Bm, 0, none⟩)]] w fun en w' => ∃ (v : Value) (ss : List (List UInt8)), en = .returned v ∧ ss.Perm (es.toList.map fun x => keyStr x.key) ∧ w'.ownsRow w.heap.size 9 1 v ss.length ((ss.mergeSort leB).map Go.Proofs.encStr) ∧ (v = .slice none 0 0 ↔ ss = []) ∧ Below w.heap.size w w' := by
  obtain ⟨D0, hown, hlen, hperm⟩ := own_of Tryz.underlying9 hb hst hk hsz
  have hmax : Maps.size D0 ≤ maxLen := by rw [hlen]; exact Nat.le_trans hsz (by decide)
  have hbytes : Maps.size D0 * 16 ≤ 140737488355328 := by rw [hlen]; omega
  have hseq : SeqGives Fence.wide 2 Tryz.prog 116 #[.pointer (some ⟨Bm, 0, none⟩)] Go.Proofs.encStr (fun ss => ss.Perm (strKeys D0)) (Maps.size D0) w :=
    AnyZ.keys_gives (ρ := Tryz.keysS116_ren) { Tryz.keysS116 with } Fence.wide _ trivial rfl (by omega) Bm b es.size D0 w hBm hm hown
  have cS := AnyZ.sorted_in Tryz.sortedS Fence.wide 5 trivial trivial trivial trivial rfl (by omega) (sortsS _) (enters_of Tryz.func81 (by kernel_rfl) rfl) 116 #[.pointer (some ⟨Bm, 0, none⟩)] trivial (enters_of Tryz.func116 (by kernel_rfl) rfl) _ _ hmax hbytes w hseq
  refine (callsIn_wide (n := 5)).1 (cS.mono ?_)
  rintro en w' ⟨v, ss, rfl, hS, hrow, hnil, hbel⟩
  exact ⟨v, ss, rfl, hS.trans hperm, hrow, hnil, hbel⟩
set_option maxHeartbeats 1000000 in
theorem sortedNilS_116 {w : World} {Bm : Nat} (hBm : Bm < w.heap.size) (hm : w.cell? ⟨Bm, 0, none⟩ = some (.map none)) :
    Calls Tryz.prog 53 #[.func (.func 116) #[] #[.pointer (some ⟨Bm, 0, none⟩)]] w fun en w' => en = .returned (.slice none 0 0) ∧ Below w.heap.size w w' := by
  have hseq : SeqGives Fence.wide 2 Tryz.prog 116 #[.pointer (some ⟨Bm, 0, none⟩)] Go.Proofs.encStr (fun ss : List (List UInt8) => ss = []) 0 w :=
    AnyZ.keys_gives_nil (ρ := Tryz.keysS116_ren) { Tryz.keysS116 with } Fence.wide _ trivial rfl Bm w hBm hm
  have cS := AnyZ.sorted_in Tryz.sortedS Fence.wide 5 trivial trivial trivial trivial rfl (by omega) (sortsS _) (enters_of Tryz.func81 (by kernel_rfl) rfl) 116 #[.pointer (some ⟨Bm, 0, none⟩)] trivial (enters_of Tryz.func116 (by kernel_rfl) rfl) _ 0 (Nat.zero_le _) (by omega) w hseq
  refine (callsIn_wide (n := 5)).1 (cS.mono ?_)
  rintro en w' ⟨v, ss, rfl, hS, _, hnil, hbel⟩
  exact ⟨by rw [hnil.2 hS], hbel⟩
theorem sortedAtS (w0 : World) : SortedAt Tryz.prog w0 53 9 isItS := by
  refine ⟨fun g hg w Bm b clock es _ hBm hm hb hst hk hsz => ?_, fun g hg w Bm _ hBm hm => ?_⟩
  · unfold isItS at hg
    simp only [Bool.or_eq_true] at hg
    rcases hg with hg | hg
    · obtain rfl := Nat.eq_of_beq_eq_true hg; exact sortedS_82 hBm hm hb hst hk hsz
    · obtain rfl := Nat.eq_of_beq_eq_true hg; exact sortedS_116 hBm hm hb hst hk hsz
  · unfold isItS at hg
    simp only [Bool.or_eq_true] at hg
    rcases hg with hg | hg
    · obtain rfl := Nat.eq_of_beq_eq_true hg; exact sortedNilS_82 hBm hm
    · obtain rfl := Nat.eq_of_beq_eq_true hg; exact sortedNilS_116 hBm hm
def isItI (g : Nat) : Bool := Nat.beq g 128 || Nat.beq g 129
theorem sortsI (m : Nat) : AnyZI.SortsIn Tryz.prog Tryz.sortedI_ren Fence.wide m :=
  ⟨fun blk off cap ss W hH hblk hsz => callsIn_wide.2 (AnyM.slices_Sort_int Tryz.sortI blk off cap ss W hH hblk hsz),
   fun p cap W => callsIn_wide.2 (AnyM.slices_Sort_int_none Tryz.sortI p cap W)⟩
set_option maxHeartbeats 1000000 in
theorem sortedI_128 {w : World} {Bm b clock : Nat} {es : Array MapEntry} (hBm : Bm < w.heap.size) (hm : w.cell? ⟨Bm, 0, none⟩ = some (.map (some b))) (hb : w.heap[b]? = some (.map es clock)) (hst : MapKept.Stamped es clock) (hk : ∀ x ∈ es.toList, ∃ n, x.key = .int .i64 n ∧ (Lit.int .i64 n).wf = true) (hsz : es.size ≤ 100000) :
    Calls Tryz.prog 102 #[.func (.func 128) #[] #[.pointer (some ⟨Bm, 0, none⟩)]] w fun en w' => ∃ (v : Value) (ss : List Int), en = .returned v ∧ ss.Perm (es.toList.map fun x => keyInt x.key) ∧ w'.ownsRow w.heap.size 3 1 v ss.length ((ss.mergeSort leI).map encZ) ∧ (v = .slice none 0 0 ↔ ss = []) ∧ Below w.heap.size w w' := by
  obtain ⟨D0, hown, hlen, hperm⟩ := own_ofI Tryz.underlying3 hb hst hk hsz
  have hmax : Maps.size D0 ≤ maxLen := by rw [hlen]; exact Nat.le_trans hsz (by decide)
  have hbytes : Maps.size D0 * 8 ≤ 140737488355328 := by rw [hlen]; omega
  have hseq : SeqGives Fence.wide 2 Tryz.prog 128 #[.pointer (some ⟨Bm, 0, none⟩)] encZ (fun ss => ss.Perm (intKeys D0)) (Maps.size D0) w :=
    AnyZI.keys_gives (ρ := Tryz.keysI128_ren) { Tryz.keysI128 with } Fence.wide _ trivial rfl (by omega) Bm b es.size D0 w hBm hm hown
  have cS := AnyZI.sorted_in Tryz.sortedI Fence.wide 5 trivial trivial trivial trivial rfl (by omega) (sortsI _) (enters_of Tryz.func127 (by kernel_rfl) rfl) 128 #[.pointer (some ⟨Bm, 0, none⟩)] trivial (enters_of Tryz.func128 (by kernel_rfl) rfl) _ _ hmax hbytes w hseq
  refine (callsIn_wide (n := 5)).1 (cS.mono ?_)
  rintro en w' ⟨v, ss, rfl, hS, hrow, hnil, hbel⟩
  exact ⟨v, ss, rfl, hS.trans hperm, hrow, hnil, hbel⟩
set_option maxHeartbeats 1000000 in
theorem sortedNilI_128 {w : World} {Bm : Nat} (hBm : Bm < w.heap.size) (hm : w.cell? ⟨Bm, 0, none⟩ = some (.map none)) :
    Calls Tryz.prog 102 #[.func (.func 128) #[] #[.pointer (some ⟨Bm, 0, none⟩)]] w fun en w' => en = .returned (.slice none 0 0) ∧ Below w.heap.size w w' := by
  have hseq : SeqGives Fence.wide 2 Tryz.prog 128 #[.pointer (some ⟨Bm, 0, none⟩)] encZ (fun ss : List Int => ss = []) 0 w :=
    AnyZI.keys_gives_nil (ρ := Tryz.keysI128_ren) { Tryz.keysI128 with } Fence.wide _ trivial rfl Bm w hBm hm
  have cS := AnyZI.sorted_in Tryz.sortedI Fence.wide 5 trivial trivial trivial trivial rfl (by omega) (sortsI _) (enters_of Tryz.func127 (by kernel_rfl) rfl) 128 #[.pointer (some ⟨Bm, 0, none⟩)] trivial (enters_of Tryz.func128 (by kernel_rfl) rfl) _ 0 (Nat.zero_le _) (by omega) w hseq
  refine (callsIn_wide (n := 5)).1 (cS.mono ?_)
  rintro en w' ⟨v, ss, rfl, hS, _, hnil, hbel⟩
  exact ⟨by rw [hnil.2 hS], hbel⟩
set_option maxHeartbeats 1000000 in
theorem sortedI_129 {w : World} {Bm b clock : Nat} {es : Array MapEntry} (hBm : Bm < w.heap.size) (hm : w.cell? ⟨Bm, 0, none⟩ = some (.map (some b))) (hb : w.heap[b]? = some (.map es clock)) (hst : MapKept.Stamped es clock) (hk : ∀ x ∈ es.toList, ∃ n, x.key = .int .i64 n ∧ (Lit.int .i64 n).wf = true) (hsz : es.size ≤ 100000) :
    Calls Tryz.prog 102 #[.func (.func 129) #[] #[.pointer (some ⟨Bm, 0, none⟩)]] w fun en w' => ∃ (v : Value) (ss : List Int), en = .returned v ∧ ss.Perm (es.toList.map fun x => keyInt x.key) ∧ w'.ownsRow w.heap.size 3 1 v ss.length ((ss.mergeSort leI).map encZ) ∧ (v = .slice none 0 0 ↔ ss = []) ∧ Below w.heap.size w w' := by
  obtain ⟨D0, hown, hlen, hperm⟩ := own_ofI Tryz.underlying3 hb hst hk hsz
  have hmax : Maps.size D0 ≤ maxLen := by rw [hlen]; exact Nat.le_trans hsz (by decide)
  have hbytes : Maps.size D0 * 8 ≤ 140737488355328 := by rw [hlen]; omega
  have hseq : SeqGives Fence.wide 2 Tryz.prog 129 #[.pointer (some ⟨Bm, 0, none⟩)] encZ (fun ss => ss.Perm (intKeys D0)) (Maps.size D0) w :=
    AnyZI.keys_gives (ρ := Tryz.keysI129_ren) { Tryz.keysI129 with } Fence.wide _ trivial rfl (by omega) Bm b es.size D0 w hBm hm hown
  have cS := AnyZI.sorted_in Tryz.sortedI Fence.wide 5 trivial trivial trivial trivial rfl (by omega) (sortsI _) (enters_of Tryz.func127 (by kernel_rfl) rfl) 129 #[.pointer (some ⟨Bm, 0, none⟩)] trivial (enters_of Tryz.func129 (by kernel_rfl) rfl) _ _ hmax hbytes w hseq
  refine (callsIn_wide (n := 5)).1 (cS.mono ?_)
  rintro en w' ⟨v, ss, rfl, hS, hrow, hnil, hbel⟩
  exact ⟨v, ss, rfl, hS.trans hperm, hrow, hnil, hbel⟩
set_option maxHeartbeats 1000000 in
theorem sortedNilI_129 {w : World} {Bm : Nat} (hBm : Bm < w.heap.size) (hm : w.cell? ⟨Bm, 0, none⟩ = some (.map none)) :
    Calls Tryz.prog 102 #[.func (.func 129) #[] #[.pointer (some ⟨Bm, 0, none⟩)]] w fun en w' => en = .returned (.slice none 0 0) ∧ Below w.heap.size w w' := by
  have hseq : SeqGives Fence.wide 2 Tryz.prog 129 #[.pointer (some ⟨Bm, 0, none⟩)] encZ (fun ss : List Int => ss = []) 0 w :=
    AnyZI.keys_gives_nil (ρ := Tryz.keysI129_ren) { Tryz.keysI129 with } Fence.wide _ trivial rfl Bm w hBm hm
  have cS := AnyZI.sorted_in Tryz.sortedI Fence.wide 5 trivial trivial trivial trivial rfl (by omega) (sortsI _) (enters_of Tryz.func127 (by kernel_rfl) rfl) 129 #[.pointer (some ⟨Bm, 0, none⟩)] trivial (enters_of Tryz.func129 (by kernel_rfl) rfl) _ 0 (Nat.zero_le _) (by omega) w hseq
  refine (callsIn_wide (n := 5)).1 (cS.mono ?_)
  rintro en w' ⟨v, ss, rfl, hS, _, hnil, hbel⟩
  exact ⟨by rw [hnil.2 hS], hbel⟩
theorem sortedAtI (w0 : World) : SortedAtI Tryz.prog w0 102 3 isItI := by
  refine ⟨fun g hg w Bm b clock es _ hBm hm hb hst hk hsz => ?_, fun g hg w Bm _ hBm hm => ?_⟩
  · unfold isItI at hg
    simp only [Bool.or_eq_true] at hg
    rcases hg with hg | hg
    · obtain rfl := Nat.eq_of_beq_eq_true hg; exact sortedI_128 hBm hm hb hst hk hsz
    · obtain rfl := Nat.eq_of_beq_eq_true hg; exact sortedI_129 hBm hm hb hst hk hsz
  · unfold isItI at hg
    simp only [Bool.or_eq_true] at hg
    rcases hg with hg | hg
    · obtain rfl := Nat.eq_of_beq_eq_true hg; exact sortedNilI_128 hBm hm
    · obtain rfl := Nat.eq_of_beq_eq_true hg; exact sortedNilI_129 hBm hm
theorem builderX : Builder.Extra Tryz.prog Tryz.lays105_ren where
  sizeBuilder := by kernel_rfl
  liesBuilder := by kernel_rfl
  t5 := Tryz.underlying5
  a5 := Tryz.isAgg5
  z5 := Tryz.sizeOf5
  v5 := Tryz.zeroValue5
  infoByte := by kernel_rfl
  cellsByte := by kernel_rfl
  sizeByte := by kernel_rfl
  neB5 := by decide
theorem repeat_at (w0 : World) : RepeatAt Tryz.prog w0 26 := fun s c w _ hc hl => Any.strings_Repeat Tryz.lays105 builderX s c w (by omega) (by omega)
end Go.Proofs.YtdeahggaclcldaaGreat
