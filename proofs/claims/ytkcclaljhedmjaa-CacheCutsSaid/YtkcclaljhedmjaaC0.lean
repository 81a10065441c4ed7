/- Small functions: HasPrefix, fair, disk.New, Num, blocks. No conditions. -/
import Derived.Test.YtkcclaljhedmjaaB9
namespace Go.Proofs.Ytkcclaljhedmjaa
open Go.RowKit Go.Maps
/-- the device, whatever is left of its power -/
def DX (p : Pl) (w : World) (d ib : Nat) (f : Nat → List Nat) (off cut : Bool) (writes : Int) : Prop := ∃ left, DiskAt w d ib p.n f off cut left writes
theorem JX.dx {p : Pl} {w : World} {j d mb ib : Nat} {f : Nat → List Nat} {off cut over : Bool} {writes : Int} {S : Int → Option ByteArray} {m : Nat} (h : JX p w j d mb ib f off cut writes over S m) : DX p w d ib f off cut writes := by
  obtain ⟨left, h⟩ := h
  exact ⟨left, h.disk⟩
theorem DX.kp {p : Pl} {w w' : World} {d ib : Nat} {f : Nat → List Nat} {off cut : Bool} {writes : Int} {F : Nat → Prop} (h : DX p w d ib f off cut writes) (hk : Kp F w w') (h1 : ¬ F d) (h2 : ¬ F ib) : DX p w' d ib f off cut writes := by
  obtain ⟨left, h⟩ := h
  exact ⟨left, (hk.block d (blk_lt h.row) h1).trans h.row, (hk.block ib (blk_lt h.img) h2).trans h.img, h.len, h.byt, h.wr⟩
theorem DX.same {p : Pl} {w w' : World} {d ib : Nat} {f : Nat → List Nat} {off cut : Bool} {writes : Int} (h : DX p w d ib f off cut writes) (hk : Kp (fun _ => False) w w') : DX p w' d ib f off cut writes := h.kp hk (fun e => e) (fun e => e)
set_option maxHeartbeats 1000000 in
theorem num_any (w : World) (n : Int) : Calls Try.prog 8 #[.int .i64 n] w (IntPost n w) := by
  go_enter Try.func8, Try.ntmps8
  go_wp2
  go_ret
  exact ⟨rfl, rfl⟩
set_option maxHeartbeats 1000000 in
theorem fair_any {p : Pl} {w : World} {d ib : Nat} {f : Nat → List Nat} {off cut : Bool} {writes : Int} (h : DX p w d ib f off cut writes) : Calls Try.prog 29 #[.pointer (some ⟨d, 0, none⟩), .int .i64 (p.fr : Int), .int .i64 (p.bl : Int)] w (MayPost (bif off then 603 else 0) w) := by
  obtain ⟨left, h⟩ := h
  have hp := p.ok
  have hb := blocks_any w d (some ⟨ib, 0, none⟩) p.n (256 * p.n) _ _ _ _ (by unfold maxLen; omega) 66 h.row
  have ha := alive_any w d _ _ _ _ off 66 h.row
  have g1 : decide ((p.bl : Int) < 44) = false := by simp; omega
  have g2 : decide (p.n < p.fr) = false := by simp; omega
  have g3 : decide ((p.n : Int) < (p.fr : Int)) = false := by simp; omega
  have g4 : decide ((p.n : Int) - (p.fr : Int) < (p.bl : Int)) = false := by simp; omega
  go_enter Try.func29, Try.ntmps29
  cases off
  all_goals
    go_wp2_with (first | (go_at_call 54; refine Calls.mono hb ?_; rintro e w' ⟨rfl, rfl⟩) | (go_at_call 37; refine Calls.mono ha ?_; rintro e w' ⟨rfl, rfl⟩))
    go_ret
    exact ⟨rfl, rfl⟩
/-- does a text begin so? -/
def pfx (s t : ByteArray) : Bool := (s.extract 0 t.size).toList == t.toList
set_option maxHeartbeats 1000000 in
theorem pfx_any (s t : ByteArray) (ht : t.size ≤ s.size) (w : World) : Calls Try.prog 62 #[.string s, .string t] w (BoolPost (pfx s t) w) := by
  go_enter Try.func62, Try.ntmps62
  go_wp2
  go_ret
  exact ⟨rfl, rfl⟩
set_option maxHeartbeats 1000000 in
theorem hasPrefix_any (s t : ByteArray) (ht : t.size ≤ s.size) (w : World) : Calls Try.prog 42 #[.string s, .string t] w (BoolPost (pfx s t) w) := by
  have h := pfx_any s t ht w
  go_enter Try.func42, Try.ntmps42
  go_wp2_with (go_at_call 62; refine Calls.mono h ?_; rintro e w' ⟨rfl, rfl⟩)
  go_ret
  exact ⟨rfl, rfl⟩
theorem bytesOf_extract (s : ByteArray) (a b : Nat) : bytesOf (s.extract a b) = ((bytesOf s).drop a).take (b - a) := by
  unfold bytesOf
  rw [ByteArray.data_extract, Array.toList_extract, List.extract_eq_take_drop]
  rw [List.map_take, List.map_drop]
theorem bytesOf_inj {s t : ByteArray} (h : bytesOf s = bytesOf t) : s = t := by rw [← strB_bytesOf s, h, strB_bytesOf]
theorem pfx_head (ks : List Nat) : pfx (strB (headL ks)) { data := #[79, 74, 82, 78] } = true := by
  have e : (strB (headL ks)).extract 0 (ByteArray.mk #[79, 74, 82, 78]).size = { data := #[79, 74, 82, 78] } := by
    apply bytesOf_inj
    rw [bytesOf_extract, bytesOf_strB _ (headL_byte ks)]
    have : (ByteArray.mk #[79, 74, 82, 78]).size = 4 := rfl
    rw [this, List.drop_zero, headL_mark]
    rfl
  unfold pfx
  rw [e]
  simp
/-- the count and the homes of a head -/
theorem head_many (ks : List Nat) (h : ks.length ≤ 40) : leN (bytesOf ((strB (headL ks)).extract 4 8)) = ks.length := by
  rw [bytesOf_extract, bytesOf_strB _ (headL_byte ks), headL_many, leN_four _ rfl, ofLe4_le4 _ (by omega)]
theorem head_home (ks : List Nat) (i : Nat) (hi : i < ks.length) (hx : ks.getD i 0 < 65536) : leN (bytesOf ((strB (headL ks)).extract (8 + 4 * i) (12 + 4 * i))) = ks.getD i 0 := by
  rw [bytesOf_extract, bytesOf_strB _ (headL_byte ks), show 12 + 4 * i - (8 + 4 * i) = 4 by omega, headL_home ks i hi, leN_four _ rfl, ofLe4_le4 _ (by omega)]
/-- a block of bytes 0 -/
def zeroL : List Nat := List.replicate 256 0
theorem zeroL_len : zeroL.length = 256 := List.length_replicate ..
theorem conv_row {w : World} {b n c : Nat} {xs : List Nat} (h : w.heap[b]? = some (.cells (cellsOf xs) 5)) (hn : xs.length = n) : (convert 61 9 (.slice (some ⟨b, 0, none⟩) n c)).run Try.prog w = .ok (.string (strB xs)) w := by
  refine run_convert_bytes_arg w 61 5 Try.underlying61 Try.underlying5 b 0 n c _ (by simp [hn]) (fun i hi => ?_) 9 Try.underlying9
  rw [Nat.zero_add]
  refine cell_of h _ _ ?_
  simp [cellsOf, List.getElem?_eq_getElem (show i < xs.length by omega)]
def StrPost (s : ByteArray) (w : World) (e : Ending) (w' : World) : Prop := e = .returned (.string s) ∧ Kp (fun _ => False) w w'
set_option maxHeartbeats 1000000 in
theorem block0_any (w : World) : Calls Try.prog 32 #[] w (StrPost (strB zeroL) w) := by
  have hmk : (Instr.makeSlice 61 (.int .i64 256) (.int .i64 256)).run Try.prog w = .ok (.slice (some ⟨w.heap.size, 0, none⟩) 256 256) (w.alloc (.cells (cellsOf zeroL) 5)) := mk_bytes w 256 (by omega)
  have hcv := conv_row (c := 256) (heap_alloc_new w (.cells (cellsOf zeroL) 5)) zeroL_len
  go_enter Try.func32, Try.ntmps32
  go_wp2
  go_ret
  exact ⟨rfl, kp_alloc _ _ _⟩
end Go.Proofs.Ytkcclaljhedmjaa
