/- Library functions at this program, by the library's contracts, laid: what slices.Sorted says of a map's keys; strings.Repeat. No conditions. -/
import Derived.Test.YtaoackhjaoofnaaVI
import Derived.Test.YtaoackhjaoofnaaSg
namespace Go.Proofs.Ytaoackhjaoofnaa
open Go.VM Go.RowKit Go.Maps Go.Sort Go.Shelf
def isItI (g : Nat) : Bool := Nat.beq g 41
theorem sortsI (m : Nat) : AnyZI.SortsIn Try.prog Try.sortedI_ren Fence.wide m :=
  ⟨fun blk off cap ss W hH hblk hsz => callsIn_wide.2 (AnyM.slices_Sort_int Try.sortI blk off cap ss W hH hblk hsz),
   fun p cap W => callsIn_wide.2 (AnyM.slices_Sort_int_none Try.sortI p cap W)⟩
set_option maxHeartbeats 1000000 in
theorem sortedI_41 {w : World} {Bm b clock : Nat} {es : Array MapEntry} (hBm : Bm < w.heap.size) (hm : w.cell? ⟨Bm, 0, none⟩ = some (.map (some b))) (hb : w.heap[b]? = some (.map es clock)) (hst : MapKept.Stamped es clock) (hk : ∀ x ∈ es.toList, ∃ n, x.key = .int .i64 n ∧ (Lit.int .i64 n).wf = true) (hsz : es.size ≤ 100000) :
    Calls Try.prog 32 #[.func (.func 41) #[] #[.pointer (some ⟨Bm, 0, none⟩)]] w fun en w' => ∃ (v : Value) (ss : List Int), en = .returned v ∧ ss.Perm (es.toList.map fun x => keyInt x.key) ∧ w'.ownsRow w.heap.size 3 1 v ss.length ((ss.mergeSort leI).map encZ) ∧ (v = .slice none 0 0 ↔ ss = []) ∧ Below w.heap.size w w' := by
  obtain ⟨D0, hown, hlen, hperm⟩ := own_ofI Try.underlying3 hb hst hk hsz
  have hmax : Maps.size D0 ≤ maxLen := by rw [hlen]; exact Nat.le_trans hsz (by decide)
  have hbytes : Maps.size D0 * 8 ≤ 140737488355328 := by rw [hlen]; omega
  have hseq : SeqGives Fence.wide 2 Try.prog 41 #[.pointer (some ⟨Bm, 0, none⟩)] encZ (fun ss => ss.Perm (intKeys D0)) (Maps.size D0) w :=
    AnyZI.keys_gives (ρ := Try.keysI41_ren) { Try.keysI41 with } Fence.wide _ trivial rfl (by omega) Bm b es.size D0 w hBm hm hown
  have cS := AnyZI.sorted_in Try.sortedI Fence.wide 5 trivial trivial trivial trivial rfl (by omega) (sortsI _) (enters_of Try.func40 (by kernel_rfl) rfl) 41 #[.pointer (some ⟨Bm, 0, none⟩)] trivial (enters_of Try.func41 (by kernel_rfl) rfl) _ _ hmax hbytes w hseq
  refine (callsIn_wide (n := 5)).1 (cS.mono ?_)
  rintro en w' ⟨v, ss, rfl, hS, hrow, hnil, hbel⟩
  exact ⟨v, ss, rfl, hS.trans hperm, hrow, hnil, hbel⟩
set_option maxHeartbeats 1000000 in
theorem sortedNilI_41 {w : World} {Bm : Nat} (hBm : Bm < w.heap.size) (hm : w.cell? ⟨Bm, 0, none⟩ = some (.map none)) :
    Calls Try.prog 32 #[.func (.func 41) #[] #[.pointer (some ⟨Bm, 0, none⟩)]] w fun en w' => en = .returned (.slice none 0 0) ∧ Below w.heap.size w w' := by
  have hseq : SeqGives Fence.wide 2 Try.prog 41 #[.pointer (some ⟨Bm, 0, none⟩)] encZ (fun ss : List Int => ss = []) 0 w :=
    AnyZI.keys_gives_nil (ρ := Try.keysI41_ren) { Try.keysI41 with } Fence.wide _ trivial rfl Bm w hBm hm
  have cS := AnyZI.sorted_in Try.sortedI Fence.wide 5 trivial trivial trivial trivial rfl (by omega) (sortsI _) (enters_of Try.func40 (by kernel_rfl) rfl) 41 #[.pointer (some ⟨Bm, 0, none⟩)] trivial (enters_of Try.func41 (by kernel_rfl) rfl) _ 0 (Nat.zero_le _) (by omega) w hseq
  refine (callsIn_wide (n := 5)).1 (cS.mono ?_)
  rintro en w' ⟨v, ss, rfl, hS, _, hnil, hbel⟩
  exact ⟨by rw [hnil.2 hS], hbel⟩
theorem sortedAtI (w0 : Base) : SortedAtI Try.prog w0 32 3 isItI := by
  refine ⟨fun g hg w Bm b clock es _ hBm hm hb hst hk hsz => ?_, fun g hg w Bm _ hBm hm => ?_⟩
  · unfold isItI at hg
    obtain rfl := Nat.eq_of_beq_eq_true hg
    exact sortedI_41 hBm hm hb hst hk hsz
  · unfold isItI at hg
    obtain rfl := Nat.eq_of_beq_eq_true hg
    exact sortedNilI_41 hBm hm
theorem builderX : Builder.Extra Try.prog Try.lays105_ren where
  sizeBuilder := by kernel_rfl
  liesBuilder := by kernel_rfl
  t5 := Try.underlying5
  a5 := Try.isAgg5
  z5 := Try.sizeOf5
  v5 := Try.zeroValue5
  infoByte := by kernel_rfl
  cellsByte := by kernel_rfl
  sizeByte := by kernel_rfl
  neB5 := by decide
theorem repeat_at (w0 : Base) : RepeatAt Try.prog w0 30 := fun s c w _ hc hl => Any.strings_Repeat Try.lays105 builderX s c w (by omega) (by omega)
end Go.Proofs.Ytaoackhjaoofnaa
