/- CompileTrees: a part of the proof (G0 G1 G2 G3 G4 G5 G6 G7 G8 G9). No conditions. -/
import Derived.Test.YtfkgfibmhhlemaaQF
namespace Go.Proofs.Ytfkgfibmhhlemaa
open Go.RowKit Go.Maps Go.WideMaps
theorem own_slice2 {w : World} {base e size n : Nat} {v : Value} {xs : List Value} (h : World.ownsRow w base e size v n xs) : ∃ ao c, v = .slice ao n c := by
  rcases h.2 with ⟨rfl, rfl⟩ | ⟨g, cap, cur, rfl, _⟩ <;> exact ⟨_, _, rfl⟩
set_option maxRecDepth 100000 in
set_option maxHeartbeats 800000 in
/-- the maker's put -/
theorem mput_any (B b : Nat) (v : Value) (n : Nat) (xs : List Value) (op arg : Int) (F : Value) (s : ByteArray) (w : World) (hbs : B ≤ w.heap.size) (hE : Em w B b v n xs) (hF : F.oneCell' = true)
    (h63 : n + 1 ≤ maxLen) (hby : (n + 1) * 40 ≤ 140737488355328) :
    Calls Try.prog 21 #[.pointer (some ⟨b, 0, none⟩), .agg #[.int .i64 op, .int .i64 arg, F, .string s]] w fun e w' => e = .returned (.int .i64 n) ∧ PutPost w B b v (n + 1) (xs ++ [.int .i64 op, .int .i64 arg, F, .string s]) (.returned (.tuple #[])) w' := by
  obtain ⟨hc, hfz, hown, hne⟩ := hE
  obtain ⟨i0, hi, hz0, hz1, hz2⟩ := info_parts info43
  have hlt := World.block_lt_of_cell? w _ hc
  have hca : ∀ o, (w.alloc o).cell? ⟨b, 0, none⟩ = some v := fun o => (World.cell?_of_block (heap_alloc_old w o hlt)).trans hc
  go_enter Try.func21, Try.ntmps21
  go_wp2
  go_region_law ((refine step_own rfl (.tmp 9) (.tmp 11) 29 rfl B 43 i0 _ 4 40 Try.underlying29 hi hz0 hz1 hz2 rfl (by decide) v n xs (by simp [Act.eval]) (by exact (show World.ownsRow _ B 43 4 v n xs from (hown.alloc _).alloc _)) ⟨w.heap.size + 1, 0, none⟩ 1 [.int .i64 op, .int .i64 arg, F, .string s] (by simp [Act.eval]) rfl (by exact news4 _ _ (by simp) _ _ _ _) (by intro u hu; simp at hu; rcases hu with rfl | rfl | rfl | rfl <;> first | exact hF | rfl) h63 hby (by simp; omega) ?_); intro v' w' hown' hgrow hfr; obtain ⟨ao, c', rfl⟩ := own_slice2 hown'; have hb' : w'.heap[b]? = w.heap[b]? := (hgrow.block b (by simp; omega) (fun e => hne e.symm)).trans ((heap_alloc_old _ _ (by simp; omega)).trans (heap_alloc_old w _ hlt)); have hcw : w'.cell? ⟨b, 0, none⟩ = some v := (World.cell?_of_block hb').trans hc; have hfw : w'.frozen? ⟨b, 0, none⟩ = false := (World.frozen?_of_block hb').trans hfz; clear hb' hca)
  all_goals
    have hcl := put_close (o1 := .cells #[.int .i64 op, .int .i64 arg, F, .string s] 43) (o2 := .cells #[.int .i64 op, .int .i64 arg, F, .string s] 43) (w1 := (((w.alloc (.cells #[.int .i64 op, .int .i64 arg, F, .string s] 43)).alloc (.cells #[.int .i64 op, .int .i64 arg, F, .string s] 43)).drew)) hc hfz hne rfl rfl rfl rfl hown' hgrow hfr
    have hcs := World.cell?_setCell_same w' _ (.slice ao (n + 1) c') hcw
    clear hown hown' hgrow hfr
    go_wp2
    go_ret
    exact ⟨by go_num, hcl⟩
end Go.Proofs.Ytfkgfibmhhlemaa
namespace Go.Proofs.Ytfkgfibmhhlemaa
open Go.RowKit Go.Maps Go.WideMaps
/-- a text of so many letters -/
def strV (s : List UInt8) : Value := .string ⟨s.toArray⟩
def opL : List (List UInt8) := [[43], [45], [42], [47], [37], [38], [61, 61], [60]]
def Miss (L : List (List UInt8)) (s : ByteArray) (k : Nat) : Prop := ∀ j, j < k → L[j]? ≠ some s.toList
theorem Miss.next {L : List (List UInt8)} {s : ByteArray} {k : Nat} {c : List UInt8} (h : Miss L s k) (hc : L[k]? = some c) (hb : (c == s.toList) = false) : Miss L s (k + 1) := fun j hj e => by
  by_cases hk : j < k
  · exact h j hk e
  · obtain rfl : j = k := by omega
    rw [hc] at e
    injection e with e
    rw [e] at hb; simp at hb
theorem sign_none {s : ByteArray} (h : Miss opL s 8) : signO s = none := by
  have a0 := h 0 (by omega); have a1 := h 1 (by omega); have a2 := h 2 (by omega); have a3 := h 3 (by omega)
  have a4 := h 4 (by omega); have a5 := h 5 (by omega); have a6 := h 6 (by omega); have a7 := h 7 (by omega)
  simp only [opL, List.getElem?_cons_zero, List.getElem?_cons_succ, ne_eq, Option.some.injEq] at a0 a1 a2 a3 a4 a5 a6 a7
  have b : ∀ c : List UInt8, ¬ c = s.toList → (s.toList == c) = false := fun c hc => by simpa using fun e => hc e.symm
  simp only [signO, b _ a0, b _ a1, b _ a2, b _ a3, b _ a4, b _ a5, b _ a6, b _ a7, cond_false]
theorem sign_hit {s : ByteArray} {c : List UInt8} {o : Int} (h : (c == s.toList) = true) (hc : ∀ t : ByteArray, t.toList = c → signO t = some o) : signO s = some o := by
  have e : c = s.toList := by simpa using h
  exact hc s e.symm
abbrev WO (w : World) : World := (w.alloc (.cells #[.string ⟨#[43]⟩, .string ⟨#[45]⟩, .string ⟨#[42]⟩, .string ⟨#[47]⟩, .string ⟨#[37]⟩, .string ⟨#[38]⟩, .string ⟨#[61, 61]⟩, .string ⟨#[60]⟩] 9)).alloc
            (.cells #[.int .i64 7, .int .i64 8, .int .i64 9, .int .i64 10, .int .i64 11, .int .i64 12, .int .i64 13, .int .i64 14] 3)
theorem kp_wo (w : World) : Kp (fun _ => False) w (WO w) := by
  refine ⟨rfl, rfl, rfl, ?_, fun k hk _ => ?_⟩
  · simp only [WO, World.alloc]; simp; omega
  simp only [WO]
  rw [heap_alloc_old _ _ (by simp; omega), heap_alloc_old _ _ hk]
set_option maxRecDepth 100000 in
set_option maxHeartbeats 1600000 in
/-- an operator's instruction -/
theorem mop_any (s : ByteArray) (w : World) : Calls Try.prog 52 #[.string s] w fun e w' => e = .returned (.int .i64 ((signO s).getD (-1))) ∧ Kp (fun _ => False) w w' := by
  have hkp := kp_wo w
  go_enter Try.func52, Try.ntmps52
  go_wp2
  go_loopw [5] (fun i wr => ∃ (k : Nat), i = .int .i64 k ∧ k ≤ 8 ∧ wr = WO w ∧ Hid (Miss opL s k)) (fun i _ => 8 - (intOf i).toNat)
  case atStart => exact ⟨0, rfl, by omega, rfl, fun j hj => absurd hj (Nat.not_lt_zero _)⟩
  case round =>
    obtain ⟨k, rfl, hk, rfl, hm⟩ := hrel
    match k, hk, hm with
    | 0, _, hm =>
      go_wp2_with fail
      · 
        rename_i hb
        have he : Hid (signO s = some 7) := sign_hit hb fun t ht => by simp [signO, ht]
        go_ret
        exact ⟨by rw [show signO s = some _ from he]; rfl, hkp⟩
      · 
        rename_i hb
        have he : Hid (Miss opL s 1) := Miss.next hm rfl hb
        exact ⟨⟨1, rfl, by omega, trivial, he⟩, by decide⟩
    | 1, _, hm =>
      go_wp2_with fail
      · 
        rename_i hb
        have he : Hid (signO s = some 8) := sign_hit hb fun t ht => by simp [signO, ht]
        go_ret
        exact ⟨by rw [show signO s = some _ from he]; rfl, hkp⟩
      · 
        rename_i hb
        have he : Hid (Miss opL s 2) := Miss.next hm rfl hb
        exact ⟨⟨2, rfl, by omega, trivial, he⟩, by decide⟩
    | 2, _, hm =>
      go_wp2_with fail
      · 
        rename_i hb
        have he : Hid (signO s = some 9) := sign_hit hb fun t ht => by simp [signO, ht]
        go_ret
        exact ⟨by rw [show signO s = some _ from he]; rfl, hkp⟩
      · 
        rename_i hb
        have he : Hid (Miss opL s 3) := Miss.next hm rfl hb
        exact ⟨⟨3, rfl, by omega, trivial, he⟩, by decide⟩
    | 3, _, hm =>
      go_wp2_with fail
      · 
        rename_i hb
        have he : Hid (signO s = some 10) := sign_hit hb fun t ht => by simp [signO, ht]
        go_ret
        exact ⟨by rw [show signO s = some _ from he]; rfl, hkp⟩
      · 
        rename_i hb
        have he : Hid (Miss opL s 4) := Miss.next hm rfl hb
        exact ⟨⟨4, rfl, by omega, trivial, he⟩, by decide⟩
    | 4, _, hm =>
      go_wp2_with fail
      · 
        rename_i hb
        have he : Hid (signO s = some 11) := sign_hit hb fun t ht => by simp [signO, ht]
        go_ret
        exact ⟨by rw [show signO s = some _ from he]; rfl, hkp⟩
      · 
        rename_i hb
        have he : Hid (Miss opL s 5) := Miss.next hm rfl hb
        exact ⟨⟨5, rfl, by omega, trivial, he⟩, by decide⟩
    | 5, _, hm =>
      go_wp2_with fail
      · 
        rename_i hb
        have he : Hid (signO s = some 12) := sign_hit hb fun t ht => by simp [signO, ht]
        go_ret
        exact ⟨by rw [show signO s = some _ from he]; rfl, hkp⟩
      · 
        rename_i hb
        have he : Hid (Miss opL s 6) := Miss.next hm rfl hb
        exact ⟨⟨6, rfl, by omega, trivial, he⟩, by decide⟩
    | 6, _, hm =>
      go_wp2_with fail
      · 
        rename_i hb
        have he : Hid (signO s = some 13) := sign_hit hb fun t ht => by simp [signO, ht]
        go_ret
        exact ⟨by rw [show signO s = some _ from he]; rfl, hkp⟩
      · 
        rename_i hb
        have he : Hid (Miss opL s 7) := Miss.next hm rfl hb
        exact ⟨⟨7, rfl, by omega, trivial, he⟩, by decide⟩
    | 7, _, hm =>
      go_wp2_with fail
      · 
        rename_i hb
        have he : Hid (signO s = some 14) := sign_hit hb fun t ht => by simp [signO, ht]
        go_ret
        exact ⟨by rw [show signO s = some _ from he]; rfl, hkp⟩
      · 
        rename_i hb
        have he : Hid (Miss opL s 8) := Miss.next hm rfl hb
        exact ⟨⟨8, rfl, by omega, trivial, he⟩, by decide⟩
    | 8, _, hm =>
      have he : Hid (signO s = none) := sign_none hm
      go_wp2_with fail
      go_ret
      exact ⟨by rw [show signO s = none from he]; rfl, hkp⟩
end Go.Proofs.Ytfkgfibmhhlemaa
namespace Go.Proofs.Ytfkgfibmhhlemaa
open Go.RowKit Go.Maps Go.WideMaps
theorem slotGo_hit (s : List UInt8) : ∀ (l : List (List UInt8)) (i k : Nat), (∀ j, j < k → l[j]? ≠ some s) → l[k]? = some s → slotGo s l i = some ((i + k : Nat) : Int)
  | [], _, _, _, h => by simp at h
  | t :: r, i, 0, _, h => by simp at h; simp [slotGo, h]
  | t :: r, i, k + 1, hm, h => by
    have h0 := hm 0 (by omega)
    have hb : (t == s) = false := by simpa using h0
    simp only [slotGo, hb, cond_false]
    rw [slotGo_hit s r (i + 1) k (fun j hj => by simpa using hm (j + 1) (by omega)) (by simpa using h)]
    congr 2; omega
theorem slotGo_none (s : List UInt8) : ∀ (l : List (List UInt8)) (i : Nat), (∀ j, j < l.length → l[j]? ≠ some s) → slotGo s l i = none
  | [], _, _ => rfl
  | t :: r, i, hm => by
    have h0 := hm 0 (by simp)
    have hb : (t == s) = false := by simpa using h0
    simp only [slotGo, hb, cond_false]
    exact slotGo_none s r (i + 1) fun j hj => by simpa using hm (j + 1) (by simp; omega)
theorem slot_hit {sl : List (List UInt8)} {s : ByteArray} {k : Nat} (h : Miss sl s k) (hk : sl[k]? = some s.toList) : slotOf sl s.toList = some (k : Int) := by
  have := slotGo_hit s.toList sl 0 k h hk
  simpa [slotOf] using this
theorem slot_none {sl : List (List UInt8)} {s : ByteArray} (h : Miss sl s sl.length) : slotOf sl s.toList = none := slotGo_none s.toList sl 0 h
theorem strV_toList (l : List UInt8) : (⟨l.toArray⟩ : ByteArray).toList = l := by rw [ByteArray.toList_eq]
theorem names_at {w : World} {B g cap n : Nat} {sl : List (List UInt8)} (h : w.ownsRow B 9 1 (.slice (some ⟨g, 0, none⟩) n cap) n (sl.map strV)) {k : Nat} (hk : k < sl.length) : w.cell? ⟨g, k, none⟩ = some (.string ⟨sl[k].toArray⟩) := by
  have := h.cells (g := g) rfl k (strV sl[k]) (by simp [hk])
  rw [show (⟨g, 0, none⟩ : Addr).add k = ⟨g, k, none⟩ by cases k <;> simp [Addr.add]] at this
  exact this
set_option maxRecDepth 100000 in
set_option maxHeartbeats 1600000 in
/-- a name's place -/
theorem mslot_any (B b : Nat) (sl : List (List UInt8)) (v2 : Value) (s : ByteArray) (w : World) (hc : w.cell? ⟨b, 1, none⟩ = some v2) (hown : w.ownsRow B 9 1 v2 sl.length (sl.map strV)) (hl : sl.length ≤ 9223372036854775807) :
    Calls Try.prog 42 #[pt b 0, .string s] w fun e w' => e = .returned (.int .i64 ((slotOf sl s.toList).getD (-1))) ∧ w' = w := by
  rcases hown.2 with ⟨rfl, h0⟩ | ⟨g, cap, cur, rfl, _, hg, hnc, hcm, _⟩
  · have hn : sl = [] := List.eq_nil_of_length_eq_zero h0
    subst hn
    go_enter Try.func42, Try.ntmps42
    go_wp2
    go_loopw [5] (fun i wr => i = .int .i64 0 ∧ wr = w) (fun _ _ => 0)
    case atStart => exact ⟨rfl, rfl⟩
    case round =>
      obtain ⟨rfl, rfl⟩ := hrel
      go_wp2_with fail
      go_ret
      exact ⟨rfl, rfl⟩
  · unfold maxLen at hcm
    have hat := fun k (hk : k < sl.length) => names_at hown hk
    clear hg hown
    go_enter Try.func42, Try.ntmps42
    go_wp2
    go_loopw [5] (fun i wr => ∃ (k : Nat), i = .int .i64 k ∧ k ≤ sl.length ∧ wr = w ∧ Hid (Miss sl s k)) (fun i _ => sl.length - (intOf i).toNat)
    case atStart => exact ⟨0, rfl, by omega, rfl, fun j hj => absurd hj (Nat.not_lt_zero _)⟩
    case round =>
      obtain ⟨k, rfl, hk, rfl, hm⟩ := hrel
      by_cases hlt : k < sl.length
      · have hcell := hat k hlt
        clear hat
        cases hB : (sl[k] == s.toList) with
        | true =>
          have he : Hid (slotOf sl s.toList = some (k : Int)) := slot_hit hm (by have e : sl[k] = s.toList := by simpa using hB
                                                                                 rw [← e]; simp [hlt])
          go_wp2_with fail
          go_ret
          exact ⟨by rw [show slotOf sl s.toList = some (k : Int) from he]; rfl, rfl⟩
        | false =>
          have he : Hid (Miss sl s (k + 1)) := Miss.next (c := sl[k]) hm (by simp [hlt]) hB
          go_wp2_with fail
          exact ⟨⟨k + 1, by simp, by omega, trivial, he⟩, by simp [intOf]; omega⟩
      · obtain rfl : k = sl.length := by omega
        have he : Hid (slotOf sl s.toList = none) := slot_none hm
        clear hat
        go_wp2_with fail
        go_ret
        exact ⟨by rw [show slotOf sl s.toList = none from he]; rfl, rfl⟩
end Go.Proofs.Ytfkgfibmhhlemaa
namespace Go.Proofs.Ytfkgfibmhhlemaa
open Go.RowKit Go.Maps Go.WideMaps
/-- chapter 20's functions as the document's answer lays them -/
def fnCells : Array Value := #[.string ⟨#[114, 101, 97, 100]⟩, .int .i64 3, .int .i64 2, .string ⟨#[108, 105, 115, 116]⟩, .int .i64 1, .int .i64 3, .string ⟨#[115, 116, 97, 116]⟩, .int .i64 1, .int .i64 1, .string ⟨#[114, 101, 97, 100, 108, 105, 110, 107]⟩, .int .i64 1, .int .i64 4, .string ⟨#[99, 114, 101, 97, 116, 101]⟩, .int .i64 2, .int .i64 5, .string ⟨#[109, 107, 100, 105, 114]⟩, .int .i64 2, .int .i64 6, .string ⟨#[115, 121, 109, 108, 105, 110, 107]⟩, .int .i64 2, .int .i64 7, .string ⟨#[119, 114, 105, 116, 101]⟩, .int .i64 3, .int .i64 8, .string ⟨#[116, 114, 117, 110, 99, 97, 116, 101]⟩, .int .i64 2, .int .i64 9, .string ⟨#[99, 104, 109, 111, 100]⟩, .int .i64 2, .int .i64 10, .string ⟨#[114, 101, 109, 111, 118, 101]⟩, .int .i64 1, .int .i64 11, .string ⟨#[114, 109, 100, 105, 114]⟩, .int .i64 1, .int .i64 12, .string ⟨#[114, 101, 110, 97, 109, 101]⟩, .int .i64 2, .int .i64 13, .string ⟨#[111, 112, 101, 110]⟩, .int .i64 1, .int .i64 14, .string ⟨#[114, 101, 97, 100, 102, 100]⟩, .int .i64 3, .int .i64 15, .string ⟨#[119, 114, 105, 116, 101, 102, 100]⟩, .int .i64 3, .int .i64 16, .string ⟨#[99, 108, 111, 115, 101]⟩, .int .i64 1, .int .i64 17, .string ⟨#[99, 104, 100, 105, 114]⟩, .int .i64 1, .int .i64 18, .string ⟨#[110, 117, 109]⟩, .int .i64 1, .int .i64 0, .string ⟨#[116, 101, 120, 116]⟩, .int .i64 1, .int .i64 0, .string ⟨#[108, 101, 110]⟩, .int .i64 1, .int .i64 0, .string ⟨#[119, 104, 111, 108, 101]⟩, .int .i64 1, .int .i64 0]
def fnCall : List Int := [2, 3, 1, 4, 5, 6, 7, 8, 9, 10, 11, 12, 13, 14, 15, 16, 17, 18, 0, 0, 0, 0]
theorem fn_cells : ∀ k (h : k < fnL.length), fnCells[k * 3]? = some (strV fnL[k].1) ∧ fnCells[k * 3 + 1]? = some (.int .i64 fnL[k].2) ∧ fnCells[k * 3 + 2]? = some (.int .i64 (fnCall.getD k 0))
  | 0, _ => ⟨rfl, rfl, rfl⟩
  | 1, _ => ⟨rfl, rfl, rfl⟩
  | 2, _ => ⟨rfl, rfl, rfl⟩
  | 3, _ => ⟨rfl, rfl, rfl⟩
  | 4, _ => ⟨rfl, rfl, rfl⟩
  | 5, _ => ⟨rfl, rfl, rfl⟩
  | 6, _ => ⟨rfl, rfl, rfl⟩
  | 7, _ => ⟨rfl, rfl, rfl⟩
  | 8, _ => ⟨rfl, rfl, rfl⟩
  | 9, _ => ⟨rfl, rfl, rfl⟩
  | 10, _ => ⟨rfl, rfl, rfl⟩
  | 11, _ => ⟨rfl, rfl, rfl⟩
  | 12, _ => ⟨rfl, rfl, rfl⟩
  | 13, _ => ⟨rfl, rfl, rfl⟩
  | 14, _ => ⟨rfl, rfl, rfl⟩
  | 15, _ => ⟨rfl, rfl, rfl⟩
  | 16, _ => ⟨rfl, rfl, rfl⟩
  | 17, _ => ⟨rfl, rfl, rfl⟩
  | 18, _ => ⟨rfl, rfl, rfl⟩
  | 19, _ => ⟨rfl, rfl, rfl⟩
  | 20, _ => ⟨rfl, rfl, rfl⟩
  | 21, _ => ⟨rfl, rfl, rfl⟩
  | k + 22, h => absurd h (by simp [fnL])
theorem fn_hit : ∀ k (h : k < fnL.length), fnOf fnL[k].1 = some fnL[k].2 := by decide
theorem fn_fold (s : List UInt8) : ∀ (l : List (List UInt8 × Int)), (∀ j, j < l.length → (l.map (·.1))[j]? ≠ some s) → l.foldl (fun o p => bif p.1 == s then some p.2 else o) none = none
  | [], _ => rfl
  | p :: r, h => by
    have h0 := h 0 (by simp)
    have hb : (p.1 == s) = false := by simpa using h0
    simp only [List.foldl_cons, hb, cond_false]
    exact fn_fold s r fun j hj => by simpa using h (j + 1) (by simp; omega)
theorem fn_none {s : ByteArray} (h : Miss (fnL.map (·.1)) s fnL.length) : fnOf s.toList = none := fn_fold s.toList fnL h
structure FnsPost (w : World) (e : Ending) (w' : World) : Prop where
  ret : e = .returned (.slice (some ⟨w.heap.size, 0, none⟩) 22 22)
  kp : Kp (fun _ => False) w w'
  c0 : ∀ k (h : k < fnL.length), w'.cell? ⟨w.heap.size, k * 3, none⟩ = some (strV fnL[k].1)
  c1 : ∀ k (h : k < fnL.length), w'.cell? ⟨w.heap.size, k * 3 + 1, none⟩ = some (.int .i64 fnL[k].2)
  c2 : ∀ k (_h : k < fnL.length), w'.cell? ⟨w.heap.size, k * 3 + 2, none⟩ = some (.int .i64 (fnCall.getD k 0))
theorem fns_close (w : World) : FnsPost w (.returned (.slice (some ⟨w.heap.size, 0, none⟩) 22 22)) (w.alloc (.cells fnCells 92)) :=
  ⟨rfl, kp_alloc w _, fun k h => (World.cell?_alloc_new w _ _ _).trans (fn_cells k h).1, fun k h => (World.cell?_alloc_new w _ _ _).trans (fn_cells k h).2.1, fun k h => (World.cell?_alloc_new w _ _ _).trans (fn_cells k h).2.2⟩
set_option maxRecDepth 100000 in
set_option maxHeartbeats 1600000 in
theorem mfunctions_any (w : World) : Calls Try.prog 60 #[] w (FnsPost w) := by
  have hcl := fns_close w
  unfold fnCells at hcl
  go_enter Try.func60, Try.ntmps60
  go_wp2
  go_ret
  exact hcl
end Go.Proofs.Ytfkgfibmhhlemaa
namespace Go.Proofs.Ytfkgfibmhhlemaa
open Go.RowKit Go.Maps Go.WideMaps
def FindPost (s : ByteArray) (w : World) (e : Ending) (w' : World) : Prop := ∃ nm a c, e = .returned (.tuple #[.agg #[.string nm, .int .i64 a, .int .i64 c], .bool (fnOf s.toList).isSome]) ∧ (∀ z, fnOf s.toList = some z → a = z) ∧ Kp (fun _ => False) w w'
theorem Kp.trans0 {w w1 w2 : World} (h1 : Kp (fun _ => False) w w1) (h2 : Kp (fun _ => False) w1 w2) : Kp (fun _ => False) w w2 :=
  ⟨h2.os.trans h1.os, h2.tape.trans h1.tape, h2.output.trans h1.output, Nat.le_trans h1.size h2.size, fun k hk _ => (h2.block k (Nat.lt_of_lt_of_le hk h1.size) fun e => e).trans (h1.block k hk fun e => e)⟩
theorem miss_zero (L : List (List UInt8)) (s : ByteArray) : Miss L s 0 := fun _ hj => absurd hj (Nat.not_lt_zero _)
theorem info92 : (Try.prog.info? 92).map (·.size) = some 3 := by kernel_rfl
theorem find_res (tmps : Array Value) (w' : World) (g : Nat) (cs : Array Value) (h2 : tmps.getD 2 undef = .pointer (some ⟨g, 0, none⟩)) (hg : w'.heap[g]? = some (.cells cs 92 (0, 0))) (hcs : cs.size = 3) :
    (results Try.f53 tmps).run Try.prog w' = .ok (.tuple #[.agg cs, tmps.getD 3 undef]) w' := by
  rw [results_cell_tmp rfl, h2]
  have hl := run_loadVar_row w' g 92 92 cs (0, 0) _ hg Try.underlying92 rfl (by rw [info92, hcs])
  simp [asAddr, Result.andThen, hl]
theorem three_set {w : World} {g : Nat} {a b c x y z : Value} {ty : TypeId} (h : w.heap[g]? = some (.cells #[a, b, c] ty)) : (((w.setCell ⟨g, 0, none⟩ x).setCell ⟨g, 1, none⟩ y).setCell ⟨g, 2, none⟩ z).heap[g]? = some (.cells #[x, y, z] ty) := by
  simp [World.setCell, Array.getElem?_modify, h]
theorem kp_set {w w' : World} {g : Nat} (h : Kp (fun _ => False) w w') (hg : w.heap.size ≤ g) (o : Nat) (v : Value) : Kp (fun _ => False) w (w'.setCell ⟨g, o, none⟩ v) :=
  ⟨h.os, h.tape, h.output, by simpa [World.setCell] using h.size, fun k hk hf => by
    have hne : ¬ g = k := by omega
    have : (w'.setCell ⟨g, o, none⟩ v).heap[k]? = w'.heap[k]? := by simp [World.setCell, Array.getElem?_modify, hne]
    exact this.trans (h.block k hk hf)⟩
set_option maxRecDepth 100000 in
set_option maxHeartbeats 1600000 in
theorem mfind_any (s : ByteArray) (w : World) : Calls Try.prog 53 #[.string s] w (FindPost s w) := by
  have hf := mfunctions_any (w.alloc (.cells #[.string ⟨#[]⟩, .int .i64 0, .int .i64 0] 92))
  have hk0 := kp_alloc w (.cells #[.string ⟨#[]⟩, .int .i64 0, .int .i64 0] 92)
  go_enter Try.func53, Try.ntmps53
  go_wp2_with (go_at_call 60; refine hf.mono ?_; rintro e w1 ⟨rfl, hkp, hc0, hc1, hc2⟩)
  have hsz : (w.alloc (.cells #[.string ⟨#[]⟩, .int .i64 0, .int .i64 0] 92)).heap.size = w.heap.size + 1 := by simp
  rw [hsz] at hc0 hc1 hc2
  have hb0 : w1.heap[w.heap.size]? = some (.cells #[.string ⟨#[]⟩, .int .i64 0, .int .i64 0] 92) := (hkp.block w.heap.size (by simp) (fun e => e)).trans (heap_alloc_new w _)
  have g0 := cell_of hb0 0 _ rfl
  have g1 := cell_of hb0 1 _ rfl
  have g2 := cell_of hb0 2 _ rfl
  have z0 := frozen_of hb0 0
  have z1 := frozen_of hb0 1
  have z2 := frozen_of hb0 2
  have hkw := hk0.trans0 hkp
  have hb3 := fun x y z => three_set (x := x) (y := y) (z := z) hb0
  have hk3 : ∀ x y z, Kp (fun _ => False) w (((w1.setCell ⟨w.heap.size, 0, none⟩ x).setCell ⟨w.heap.size, 1, none⟩ y).setCell ⟨w.heap.size, 2, none⟩ z) := fun x y z => kp_set (kp_set (kp_set hkw (Nat.le_refl _) _ _) (Nat.le_refl _) _ _) (Nat.le_refl _) _ _
  clear hf hk0 hkp hb0
  go_loopw [5] (fun i wr => ∃ (k : Nat), i = .int .i64 k ∧ k ≤ 22 ∧ wr = w1 ∧ Hid (Miss (fnL.map (·.1)) s k)) (fun i _ => 22 - (intOf i).toNat)
  case atStart => exact ⟨0, rfl, by omega, rfl, miss_zero _ _⟩
  case round =>
    obtain ⟨k, rfl, hk, rfl, hm⟩ := hrel
    by_cases hlt : k < fnL.length
    · have e0 := hc0 k hlt
      have e1 := hc1 k hlt
      have e2 := hc2 k hlt
      have hlt' : k < 22 := hlt
      have hat : (fnL.map (·.1))[k]? = some fnL[k].1 := by rw [List.getElem?_map, List.getElem?_eq_getElem hlt]; rfl
      have hhit := fn_hit k hlt
      generalize fnL[k] = pr at e0 e1 hat hhit
      obtain ⟨nm, ar⟩ := pr
      simp only at e0 e1 hat hhit
      generalize fnCall.getD k 0 = cl at e2
      unfold strV at e0
      clear hc0 hc1 hc2 hlt
      cases hB : (nm == s.toList) with
      | true =>
        have he : Hid (fnOf s.toList = some ar) := by have e : nm = s.toList := by simpa using hB
                                                      rw [← e]; exact hhit
        clear hhit hat hm
        go_wp2_with fail
        refine bodyPost_ret (find_res _ _ w.heap.size _ rfl (hb3 _ _ _) rfl) rfl ⟨⟨nm.toArray⟩, ar, cl, ?_, ?_, hk3 _ _ _⟩
        · rw [show fnOf s.toList = some ar from he]; rfl
        · intro z hz; rw [show fnOf s.toList = some ar from he] at hz; injection hz
      | false =>
        have he : Hid (Miss (fnL.map (·.1)) s (k + 1)) := Miss.next hm hat hB
        clear hhit hat hm
        go_wp2_with fail
        exact ⟨⟨k + 1, by simp, by omega, trivial, he⟩, by simp [intOf]; omega⟩
    · obtain rfl : k = 22 := by have : fnL.length = 22 := rfl; omega
      have he : Hid (fnOf s.toList = none) := fn_none hm
      clear hc0 hc1 hc2
      go_wp2_with fail
      refine bodyPost_ret (find_res _ _ w.heap.size _ rfl (hb3 _ _ _) rfl) rfl ⟨⟨#[]⟩, 0, 0, ?_, ?_, hk3 _ _ _⟩
      · rw [show fnOf s.toList = none from he]; rfl
      · intro z hz; rw [show fnOf s.toList = none from he] at hz; cases hz
end Go.Proofs.Ytfkgfibmhhlemaa
namespace Go.Proofs.Ytfkgfibmhhlemaa
open Go.RowKit Go.Maps Go.WideMaps
theorem law3 : Keyed Try.prog 3 := int_keyed Try.underlying3
theorem key3 {k : Int} (h : (Lit.int .i64 k).wf = true) : keyOf Try.prog 3 (.int .i64 k) = some (.int .i64 k) := keyOf_int_mk Try.underlying3 h
/-- how many kids a kind has -/
def kidsE : List (Int × Int) := [(15, 0), (16, 0), (14, 0), (17, 1), (18, 2)]
def kidsS : List (Int × Int) := [(9, 1), (10, 3), (11, 2), (12, 1), (13, 1)]
noncomputable def kidsD (l : List (Int × Int)) : DataW Unit := l.foldl (fun D p => D.put (.int .i64 p.1) (.lit (.int .i64 p.2))) (.map [])
/-- what a map from numbers to numbers tells at a number -/
structure AtI (D : DataW Unit) (s : Int) (o : Option Int) : Prop where
  isMap : IsMap D
  atKey : ∀ z, D.atKey (.int .i64 s) z = match o with | some k => .lit (.int .i64 k) | none => z
  has : Maps.has D (.int .i64 s) = o.isSome
theorem AtI.put {D : DataW Unit} {s : Int} {o : Option Int} (h : AtI D s o) (t : Int) (k : Int) : AtI (D.put (.int .i64 t) (.lit (.int .i64 k))) s (bif t == s then some k else o) := by
  by_cases e : t = s
  · subst e
    simp only [beq_self_eq_true, cond_true]
    exact ⟨IsMap.put h.isMap _ _, fun z => atKey_put_same h.isMap (by trivial) _ _, has_put_same h.isMap (by trivial) _⟩
  · have hb : (t == s) = false := by simpa using e
    have hne : (Lit.int .i64 s) ≠ .int .i64 t := fun x => e (by injection x with _ x; exact x.symm)
    rw [hb, cond_false]
    exact ⟨IsMap.put h.isMap _ _, fun z => (atKey_put_other hne _ _).trans (h.atKey z), (has_put_other hne _).trans h.has⟩
def kidsOf (l : List (Int × Int)) (s : Int) : Option Int := l.foldl (fun o p => bif p.1 == s then some p.2 else o) none
theorem AtI.fold {s : Int} : ∀ (l : List (Int × Int)) {D : DataW Unit} {o : Option Int}, AtI D s o → AtI (l.foldl (fun D p => D.put (.int .i64 p.1) (.lit (.int .i64 p.2))) D) s (l.foldl (fun o p => bif p.1 == s then some p.2 else o) o)
  | [], _, _, h => h
  | p :: r, _, _, h => AtI.fold r (h.put p.1 p.2)
theorem kids_at (l : List (Int × Int)) (s : Int) : AtI (kidsD l) s (kidsOf l s) := AtI.fold l ⟨isMap_empty, fun _ => rfl, rfl⟩
theorem kids_look {l : List (Int × Int)} {s c : Int} (h : (kidsD l).atKey (.int .i64 s) (.lit (.int .i64 0)) = .lit (.int .i64 c)) : c = (kidsOf l s).getD 0 ∧ Maps.has (kidsD l) (.int .i64 s) = (kidsOf l s).isSome := by
  have ha := kids_at l s
  refine ⟨?_, ha.has⟩
  rw [ha.atKey] at h
  cases ho : kidsOf l s with
  | none => rw [ho] at h; exact (lit_inj h).symm
  | some k => rw [ho] at h; exact (lit_inj h).symm
/-- the argument in a variable of its own -/
abbrev Wb (w : World) (k : Int) (t : ByteArray) (x : Nat) (S : Value) (a : Int) : World := w.alloc (.cells #[.int .i64 k, .string t, .float .f64 x, S, .int .i64 a] 25)
structure Boxed (w : World) (s : Nat) (k : Int) (t : ByteArray) (x : Nat) (S : Value) : Prop where
  c0 : w.cell? ⟨s, 0, none⟩ = some (.int .i64 k)
  c1 : w.cell? ⟨s, 1, none⟩ = some (.string t)
  c2 : w.cell? ⟨s, 2, none⟩ = some (.float .f64 x)
  c3 : w.cell? ⟨s, 3, none⟩ = some S
theorem kidsE_step {k c : Int} {hs : Bool} (h : (kidsD kidsE).atKey (.int .i64 k) (.lit (.int .i64 0)) = .lit (.int .i64 c)) (hh : hs = Maps.has (kidsD kidsE) (.int .i64 k)) : c = (kidsOf kidsE k).getD 0 ∧ hs = (kidsOf kidsE k).isSome := by
  have := kids_look h
  exact ⟨this.1, hh.trans this.2⟩
theorem wb_size (w : World) (k : Int) (t : ByteArray) (x : Nat) (S : Value) (a : Int) : (Wb w k t x S a).heap.size = w.heap.size + 1 := by simp
theorem wb_made (w : World) (k : Int) (t : ByteArray) (x : Nat) (S : Value) (a : Int) : ((Wb w k t x S a).alloc (.map #[] 0)).ownsMap Try.prog 3 RI (w.heap.size + 1) 0 (.map []) := by
  have := World.ownsMap_made (Wb w k t x S a) Try.prog 3 RI
  rwa [wb_size] at this
theorem kp_stepb {w wx w1 : World} {k : Int} {t : ByteArray} {x : Nat} {S : Value} {a : Int} (h : Kp (fun _ => False) (Wb w k t x S a) wx) (hg : wx.grownBy w1 (some (w.heap.size + 1))) : Kp (fun _ => False) (Wb w k t x S a) w1 :=
  kp_step h (by rw [wb_size]; exact hg)
theorem kp_boxed {w wx : World} {k : Int} {t : ByteArray} {x : Nat} {S : Value} {a : Int} (h : Kp (fun _ => False) (Wb w k t x S a) wx) : Boxed wx w.heap.size k t x S := by
  have hb : wx.heap[w.heap.size]? = some (.cells #[.int .i64 k, .string t, .float .f64 x, S, .int .i64 a] 25) := (h.block _ (by simp) fun e => e).trans (heap_alloc_new w _)
  exact ⟨cell_of hb 0 _ rfl, cell_of hb 1 _ rfl, cell_of hb 2 _ rfl, cell_of hb 3 _ rfl⟩
end Go.Proofs.Ytfkgfibmhhlemaa
namespace Go.Proofs.Ytfkgfibmhhlemaa
open Go.RowKit Go.Maps Go.WideMaps
set_option maxRecDepth 100000 in
set_option maxHeartbeats 4000000 in
theorem mexpr_15 (S : Nat → World → Prop) (Q : World → Prop) (b : Nat) (w : World) (t : ByteArray) (x : Nat) (ao : Option Addr) (len cap : Nat) (hlen : ((0 : Int) != (len : Int)) = false) (hl : len ≤ cap) (hcap : cap ≤ 9223372036854775807) (a : Int)
    (hao : ∀ k, k < len → ∃ kb ko, ao = some ⟨kb, ko, none⟩)
    (hS0 : ∀ wi, Kp (fun _ => False) (Wb w 15 t x (.slice ao len cap) a) wi → S 0 wi)
    (hSc : ∀ k wr, S k wr → Boxed wr w.heap.size 15 t x (.slice ao len cap))
    (hkid : ∀ k wr kb ko, ao = some ⟨kb, ko, none⟩ → k < len → S k wr → ∃ c0 c1 c2 c3 c4, wr.cell? ⟨kb, ko + k * 5, none⟩ = some c0 ∧ wr.cell? ⟨kb, ko + k * 5 + 1, none⟩ = some c1 ∧ wr.cell? ⟨kb, ko + k * 5 + 2, none⟩ = some c2 ∧ wr.cell? ⟨kb, ko + k * 5 + 3, none⟩ = some c3 ∧ wr.cell? ⟨kb, ko + k * 5 + 4, none⟩ = some c4 ∧
      Calls Try.prog 41 #[pt b 0, .agg #[c0, c1, c2, c3, c4]] wr fun e w' => e = .returned (.tuple #[]) ∧ S (k + 1) w')
    (hput : ∀ wr, S len wr → Calls Try.prog 21 #[pt b 0, .agg #[.int .i64 1, .int .i64 0, .float .f64 x, .string ⟨#[]⟩]] wr fun e w' => (∃ i, e = .returned (.int .i64 i)) ∧ Q w') :
    Calls Try.prog 41 #[pt b 0, .agg #[.int .i64 15, .string t, .float .f64 x, .slice ao len cap, .int .i64 a]] w fun e w' => e = .returned (.tuple #[]) ∧ Q w' := by
  have hmm := @run_makeMap Try.prog
  have hown0 : ((Wb w 15 t x (.slice ao len cap) a).alloc (.map #[] 0)).ownsMap Try.prog 3 RI (w.heap.size + 1) 0 (.map []) := wb_made w 15 t x (.slice ao len cap) a
  have hk0 := kp_alloc (Wb w 15 t x (.slice ao len cap) a) (.map #[] 0)
  go_enter Try.func41, Try.ntmps41
  go_wp2_with (first | (refine wpList_insert_own _ rfl (.tmp 13) _ _ 83 rfl 3 3 law3 Try.underlying83 RI (w.heap.size + 1) _ _ rfl (by assumption) (by decide) _ _ _ rfl rfl (key3 (by decide)) _ _ (RI_int (by decide)) ?_; intro w1 hown1 hgrow1; have hk1 := kp_stepb (by assumption) hgrow1; clear hgrow1; obtain ⟨y0, y1, y2, y3⟩ := kp_boxed hk1) | (at_lookup; refine wpList_lookup_own_ok_int _ rfl _ _ 83 rfl 3 3 .i64 law3 Try.underlying83 Try.underlying3 (zero3 _) (w.heap.size + 1) 5 (kidsD kidsE) rfl hown1 _ _ rfl (key3 (by decide)) ?_; intro c hat hwc; obtain ⟨hcc, hhas⟩ := kids_look hat; rw [hhas]; obtain rfl : c = 0 := hcc; clear hat))
  have hSs := hS0 _ hk1
  clear hk0 hk1 hown0 hown1 hS0 y0 y1 y2 y3
  go_loopw [7] (fun i wr => ∃ (k : Nat), k ≤ len ∧ i = .int .i64 k ∧ S k wr) (fun i _ => len - (intOf i).toNat)
  case atStart => exact ⟨0, by omega, rfl, hSs⟩
  case round =>
    obtain ⟨k, hkl, rfl, hS⟩ := hrel
    obtain ⟨z0, z1, z2, z3⟩ := hSc _ _ hS
    by_cases hlt : k < len
    · obtain ⟨kb, ko, rfl⟩ := hao k hlt
      obtain ⟨c0, c1, c2, c3, c4, g0, g1, g2, g3, g4, hcall⟩ := hkid k _ kb ko rfl hlt hS
      clear hkid hao hSc
      go_wp2_with (go_at_call 41; refine Calls.mono hcall ?_; rintro e w2 ⟨rfl, h2⟩)
      go_roundw
      case rel => first | exact ⟨k + 1, by omega, by go_num, h2⟩ | ((repeat apply Exists.intro); exact ⟨⟨k + 1, by omega, by go_num, h2⟩, rfl⟩)
      case measure => simp [intOf]; omega
    · obtain rfl : k = len := by omega
      clear hkid hao
      have hput := hput _ hS
      clear hSc
      go_wp2_with (go_at_call 21; refine Calls.mono hput ?_; rintro e w3 ⟨⟨i, rfl⟩, h3⟩)
      go_end0
      exact ⟨rfl, h3⟩
set_option maxRecDepth 100000 in
set_option maxHeartbeats 4000000 in
theorem mexpr_16 (S : Nat → World → Prop) (Q : World → Prop) (b : Nat) (w : World) (t : ByteArray) (x : Nat) (ao : Option Addr) (len cap : Nat) (hlen : ((0 : Int) != (len : Int)) = false) (hl : len ≤ cap) (hcap : cap ≤ 9223372036854775807) (a : Int)
    (hao : ∀ k, k < len → ∃ kb ko, ao = some ⟨kb, ko, none⟩)
    (hS0 : ∀ wi, Kp (fun _ => False) (Wb w 16 t x (.slice ao len cap) a) wi → S 0 wi)
    (hSc : ∀ k wr, S k wr → Boxed wr w.heap.size 16 t x (.slice ao len cap))
    (hkid : ∀ k wr kb ko, ao = some ⟨kb, ko, none⟩ → k < len → S k wr → ∃ c0 c1 c2 c3 c4, wr.cell? ⟨kb, ko + k * 5, none⟩ = some c0 ∧ wr.cell? ⟨kb, ko + k * 5 + 1, none⟩ = some c1 ∧ wr.cell? ⟨kb, ko + k * 5 + 2, none⟩ = some c2 ∧ wr.cell? ⟨kb, ko + k * 5 + 3, none⟩ = some c3 ∧ wr.cell? ⟨kb, ko + k * 5 + 4, none⟩ = some c4 ∧
      Calls Try.prog 41 #[pt b 0, .agg #[c0, c1, c2, c3, c4]] wr fun e w' => e = .returned (.tuple #[]) ∧ S (k + 1) w')
    (hput : ∀ wr, S len wr → Calls Try.prog 21 #[pt b 0, .agg #[.int .i64 2, .int .i64 0, .float .f64 0, .string t]] wr fun e w' => (∃ i, e = .returned (.int .i64 i)) ∧ Q w') :
    Calls Try.prog 41 #[pt b 0, .agg #[.int .i64 16, .string t, .float .f64 x, .slice ao len cap, .int .i64 a]] w fun e w' => e = .returned (.tuple #[]) ∧ Q w' := by
  have hmm := @run_makeMap Try.prog
  have hown0 : ((Wb w 16 t x (.slice ao len cap) a).alloc (.map #[] 0)).ownsMap Try.prog 3 RI (w.heap.size + 1) 0 (.map []) := wb_made w 16 t x (.slice ao len cap) a
  have hk0 := kp_alloc (Wb w 16 t x (.slice ao len cap) a) (.map #[] 0)
  go_enter Try.func41, Try.ntmps41
  go_wp2_with (first | (refine wpList_insert_own _ rfl (.tmp 13) _ _ 83 rfl 3 3 law3 Try.underlying83 RI (w.heap.size + 1) _ _ rfl (by assumption) (by decide) _ _ _ rfl rfl (key3 (by decide)) _ _ (RI_int (by decide)) ?_; intro w1 hown1 hgrow1; have hk1 := kp_stepb (by assumption) hgrow1; clear hgrow1; obtain ⟨y0, y1, y2, y3⟩ := kp_boxed hk1) | (at_lookup; refine wpList_lookup_own_ok_int _ rfl _ _ 83 rfl 3 3 .i64 law3 Try.underlying83 Try.underlying3 (zero3 _) (w.heap.size + 1) 5 (kidsD kidsE) rfl hown1 _ _ rfl (key3 (by decide)) ?_; intro c hat hwc; obtain ⟨hcc, hhas⟩ := kids_look hat; rw [hhas]; obtain rfl : c = 0 := hcc; clear hat))
  have hSs := hS0 _ hk1
  clear hk0 hk1 hown0 hown1 hS0 y0 y1 y2 y3
  go_loopw [7] (fun i wr => ∃ (k : Nat), k ≤ len ∧ i = .int .i64 k ∧ S k wr) (fun i _ => len - (intOf i).toNat)
  case atStart => exact ⟨0, by omega, rfl, hSs⟩
  case round =>
    obtain ⟨k, hkl, rfl, hS⟩ := hrel
    obtain ⟨z0, z1, z2, z3⟩ := hSc _ _ hS
    by_cases hlt : k < len
    · obtain ⟨kb, ko, rfl⟩ := hao k hlt
      obtain ⟨c0, c1, c2, c3, c4, g0, g1, g2, g3, g4, hcall⟩ := hkid k _ kb ko rfl hlt hS
      clear hkid hao hSc
      go_wp2_with (go_at_call 41; refine Calls.mono hcall ?_; rintro e w2 ⟨rfl, h2⟩)
      go_roundw
      case rel => first | exact ⟨k + 1, by omega, by go_num, h2⟩ | ((repeat apply Exists.intro); exact ⟨⟨k + 1, by omega, by go_num, h2⟩, rfl⟩)
      case measure => simp [intOf]; omega
    · obtain rfl : k = len := by omega
      clear hkid hao
      have hput := hput _ hS
      clear hSc
      go_wp2_with (go_at_call 21; refine Calls.mono hput ?_; rintro e w3 ⟨⟨i, rfl⟩, h3⟩)
      go_end0
      exact ⟨rfl, h3⟩
end Go.Proofs.Ytfkgfibmhhlemaa
namespace Go.Proofs.Ytfkgfibmhhlemaa
open Go.RowKit Go.Maps Go.WideMaps
set_option maxRecDepth 100000 in
set_option maxHeartbeats 4000000 in
theorem mexpr_14 (S : Nat → World → Prop) (Q : World → Prop) (b : Nat) (w : World) (t : ByteArray) (x : Nat) (ao : Option Addr) (len cap : Nat) (hlen : ((0 : Int) != (len : Int)) = false) (hl : len ≤ cap) (hcap : cap ≤ 9223372036854775807) (a : Int)
    (hao : ∀ k, k < len → ∃ kb ko, ao = some ⟨kb, ko, none⟩)
    (hS0 : ∀ wi, Kp (fun _ => False) (Wb w 14 t x (.slice ao len cap) a) wi → S 0 wi)
    (hSc : ∀ k wr, S k wr → Boxed wr w.heap.size 14 t x (.slice ao len cap))
    (hkid : ∀ k wr kb ko, ao = some ⟨kb, ko, none⟩ → k < len → S k wr → ∃ c0 c1 c2 c3 c4, wr.cell? ⟨kb, ko + k * 5, none⟩ = some c0 ∧ wr.cell? ⟨kb, ko + k * 5 + 1, none⟩ = some c1 ∧ wr.cell? ⟨kb, ko + k * 5 + 2, none⟩ = some c2 ∧ wr.cell? ⟨kb, ko + k * 5 + 3, none⟩ = some c3 ∧ wr.cell? ⟨kb, ko + k * 5 + 4, none⟩ = some c4 ∧
      Calls Try.prog 41 #[pt b 0, .agg #[c0, c1, c2, c3, c4]] wr fun e w' => e = .returned (.tuple #[]) ∧ S (k + 1) w')
    (hput : ∀ wr, S len wr → ∃ β d z, decide ((z : Int) < 0) = d ∧ Calls Try.prog 42 #[pt b 0, .string t] wr (fun e w' => e = .returned (.int .i64 z) ∧ w' = wr) ∧ wr.cell? ⟨b, 2, none⟩ = some (.bool β) ∧ wr.frozen? ⟨b, 2, none⟩ = false ∧
      Calls Try.prog 21 #[pt b 0, .agg #[.int .i64 3, .int .i64 z, .float .f64 0, .string ⟨#[]⟩]] (wr.setCell ⟨b, 2, none⟩ (.bool (β || d))) fun e w' => (∃ i, e = .returned (.int .i64 i)) ∧ Q w') :
    Calls Try.prog 41 #[pt b 0, .agg #[.int .i64 14, .string t, .float .f64 x, .slice ao len cap, .int .i64 a]] w fun e w' => e = .returned (.tuple #[]) ∧ Q w' := by
  have hmm := @run_makeMap Try.prog
  have hown0 : ((Wb w 14 t x (.slice ao len cap) a).alloc (.map #[] 0)).ownsMap Try.prog 3 RI (w.heap.size + 1) 0 (.map []) := wb_made w 14 t x (.slice ao len cap) a
  have hk0 := kp_alloc (Wb w 14 t x (.slice ao len cap) a) (.map #[] 0)
  go_enter Try.func41, Try.ntmps41
  go_wp2_with (first | (refine wpList_insert_own _ rfl (.tmp 13) _ _ 83 rfl 3 3 law3 Try.underlying83 RI (w.heap.size + 1) _ _ rfl (by assumption) (by decide) _ _ _ rfl rfl (key3 (by decide)) _ _ (RI_int (by decide)) ?_; intro w1 hown1 hgrow1; have hk1 := kp_stepb (by assumption) hgrow1; clear hgrow1; obtain ⟨y0, y1, y2, y3⟩ := kp_boxed hk1) | (at_lookup; refine wpList_lookup_own_ok_int _ rfl _ _ 83 rfl 3 3 .i64 law3 Try.underlying83 Try.underlying3 (zero3 _) (w.heap.size + 1) 5 (kidsD kidsE) rfl hown1 _ _ rfl (key3 (by decide)) ?_; intro c hat hwc; obtain ⟨hcc, hhas⟩ := kids_look hat; rw [hhas]; obtain rfl : c = 0 := hcc; clear hat))
  have hSs := hS0 _ hk1
  clear hk0 hk1 hown0 hown1 hS0 y0 y1 y2 y3
  go_loopw [7] (fun i wr => ∃ (k : Nat), k ≤ len ∧ i = .int .i64 k ∧ S k wr) (fun i _ => len - (intOf i).toNat)
  case atStart => exact ⟨0, by omega, rfl, hSs⟩
  case round =>
    obtain ⟨k, hkl, rfl, hS⟩ := hrel
    obtain ⟨z0, z1, z2, z3⟩ := hSc _ _ hS
    by_cases hlt : k < len
    · obtain ⟨kb, ko, rfl⟩ := hao k hlt
      obtain ⟨c0, c1, c2, c3, c4, g0, g1, g2, g3, g4, hcall⟩ := hkid k _ kb ko rfl hlt hS
      clear hkid hao hSc
      go_wp2_with (go_at_call 41; refine Calls.mono hcall ?_; rintro e w2 ⟨rfl, h2⟩)
      go_roundw
      case rel => first | exact ⟨k + 1, by omega, by go_num, h2⟩ | ((repeat apply Exists.intro); exact ⟨⟨k + 1, by omega, by go_num, h2⟩, rfl⟩)
      case measure => simp [intOf]; omega
    · obtain rfl : k = len := by omega
      clear hkid hao
      obtain ⟨β, d, z, hd, hslot, q0, q1, hput⟩ := hput _ hS
      clear hSc
      cases β <;> cases d
      all_goals
        simp only [Bool.or_false, Bool.or_true] at hput
        go_wp2_with (first | (go_at_call 42; refine Calls.mono hslot ?_; rintro e w3 ⟨rfl, rfl⟩; clear hslot) | (go_at_call 21; refine Calls.mono hput ?_; rintro e w3 ⟨⟨i, rfl⟩, h3⟩))
        go_end0
        exact ⟨rfl, h3⟩
set_option maxRecDepth 100000 in
set_option maxHeartbeats 4000000 in
theorem mexpr_17 (S : Nat → World → Prop) (Q : World → Prop) (b : Nat) (w : World) (t : ByteArray) (x : Nat) (ao : Option Addr) (len cap : Nat) (hlen : ((1 : Int) != (len : Int)) = false) (hl : len ≤ cap) (hcap : cap ≤ 9223372036854775807) (a : Int)
    (hao : ∀ k, k < len → ∃ kb ko, ao = some ⟨kb, ko, none⟩)
    (hS0 : ∀ wi, Kp (fun _ => False) (Wb w 17 t x (.slice ao len cap) a) wi → S 0 wi)
    (hSc : ∀ k wr, S k wr → Boxed wr w.heap.size 17 t x (.slice ao len cap))
    (hkid : ∀ k wr kb ko, ao = some ⟨kb, ko, none⟩ → k < len → S k wr → ∃ c0 c1 c2 c3 c4, wr.cell? ⟨kb, ko + k * 5, none⟩ = some c0 ∧ wr.cell? ⟨kb, ko + k * 5 + 1, none⟩ = some c1 ∧ wr.cell? ⟨kb, ko + k * 5 + 2, none⟩ = some c2 ∧ wr.cell? ⟨kb, ko + k * 5 + 3, none⟩ = some c3 ∧ wr.cell? ⟨kb, ko + k * 5 + 4, none⟩ = some c4 ∧
      Calls Try.prog 41 #[pt b 0, .agg #[c0, c1, c2, c3, c4]] wr fun e w' => e = .returned (.tuple #[]) ∧ S (k + 1) w')
    (hput : ∀ wr, S len wr → ∃ β d1 d3, (t.toList == [33]) = d1 ∧ (t.toList != [33]) = !d1 ∧ (t.toList == [45]) = d3 ∧ (t.toList != [45]) = !d3 ∧ wr.cell? ⟨b, 2, none⟩ = some (.bool β) ∧ wr.frozen? ⟨b, 2, none⟩ = false ∧
      Calls Try.prog 21 #[pt b 0, .agg #[.int .i64 (bif d1 then 6 else 5), .int .i64 0, .float .f64 0, .string ⟨#[]⟩]] (wr.setCell ⟨b, 2, none⟩ (.bool (β || (!d1 && !d3)))) fun e w' => (∃ i, e = .returned (.int .i64 i)) ∧ Q w') :
    Calls Try.prog 41 #[pt b 0, .agg #[.int .i64 17, .string t, .float .f64 x, .slice ao len cap, .int .i64 a]] w fun e w' => e = .returned (.tuple #[]) ∧ Q w' := by
  have hmm := @run_makeMap Try.prog
  have hown0 : ((Wb w 17 t x (.slice ao len cap) a).alloc (.map #[] 0)).ownsMap Try.prog 3 RI (w.heap.size + 1) 0 (.map []) := wb_made w 17 t x (.slice ao len cap) a
  have hk0 := kp_alloc (Wb w 17 t x (.slice ao len cap) a) (.map #[] 0)
  go_enter Try.func41, Try.ntmps41
  go_wp2_with (first | (refine wpList_insert_own _ rfl (.tmp 13) _ _ 83 rfl 3 3 law3 Try.underlying83 RI (w.heap.size + 1) _ _ rfl (by assumption) (by decide) _ _ _ rfl rfl (key3 (by decide)) _ _ (RI_int (by decide)) ?_; intro w1 hown1 hgrow1; have hk1 := kp_stepb (by assumption) hgrow1; clear hgrow1; obtain ⟨y0, y1, y2, y3⟩ := kp_boxed hk1) | (at_lookup; refine wpList_lookup_own_ok_int _ rfl _ _ 83 rfl 3 3 .i64 law3 Try.underlying83 Try.underlying3 (zero3 _) (w.heap.size + 1) 5 (kidsD kidsE) rfl hown1 _ _ rfl (key3 (by decide)) ?_; intro c hat hwc; obtain ⟨hcc, hhas⟩ := kids_look hat; rw [hhas]; obtain rfl : c = 1 := hcc; clear hat))
  have hSs := hS0 _ hk1
  clear hk0 hk1 hown0 hown1 hS0 y0 y1 y2 y3
  go_loopw [7] (fun i wr => ∃ (k : Nat), k ≤ len ∧ i = .int .i64 k ∧ S k wr) (fun i _ => len - (intOf i).toNat)
  case atStart => exact ⟨0, by omega, rfl, hSs⟩
  case round =>
    obtain ⟨k, hkl, rfl, hS⟩ := hrel
    obtain ⟨z0, z1, z2, z3⟩ := hSc _ _ hS
    by_cases hlt : k < len
    · obtain ⟨kb, ko, rfl⟩ := hao k hlt
      obtain ⟨c0, c1, c2, c3, c4, g0, g1, g2, g3, g4, hcall⟩ := hkid k _ kb ko rfl hlt hS
      clear hkid hao hSc
      go_wp2_with (go_at_call 41; refine Calls.mono hcall ?_; rintro e w2 ⟨rfl, h2⟩)
      go_roundw
      case rel => first | exact ⟨k + 1, by omega, by go_num, h2⟩ | ((repeat apply Exists.intro); exact ⟨⟨k + 1, by omega, by go_num, h2⟩, rfl⟩)
      case measure => simp [intOf]; omega
    · obtain rfl : k = len := by omega
      clear hkid hao
      obtain ⟨β, d1, d3, hd1, hd2, hd3, hd4, q0, q1, hput⟩ := hput _ hS
      clear hSc
      cases β <;> cases d1 <;> cases d3
      all_goals
        simp only [Bool.or_false, Bool.or_true, Bool.not_true, Bool.not_false, Bool.true_and, Bool.false_and, cond_true, cond_false] at hput hd2 hd4
        go_wp2_with (go_at_call 21; refine Calls.mono hput ?_; rintro e w3 ⟨⟨i, rfl⟩, h3⟩)
        go_end0
        exact ⟨rfl, h3⟩
end Go.Proofs.Ytfkgfibmhhlemaa
namespace Go.Proofs.Ytfkgfibmhhlemaa
open Go.RowKit Go.Maps Go.WideMaps
/-! -/
set_option maxRecDepth 100000 in
set_option maxHeartbeats 4000000 in
theorem mexpr_18 (S : Nat → World → Prop) (Q : World → Prop) (b : Nat) (w : World) (t : ByteArray) (x : Nat) (ao : Option Addr) (len cap : Nat) (hlen : ((2 : Int) != (len : Int)) = false) (hl : len ≤ cap) (hcap : cap ≤ 9223372036854775807) (a : Int)
    (hao : ∀ k, k < len → ∃ kb ko, ao = some ⟨kb, ko, none⟩)
    (hS0 : ∀ wi, Kp (fun _ => False) (Wb w 18 t x (.slice ao len cap) a) wi → S 0 wi)
    (hSc : ∀ k wr, S k wr → Boxed wr w.heap.size 18 t x (.slice ao len cap))
    (hkid : ∀ k wr kb ko, ao = some ⟨kb, ko, none⟩ → k < len → S k wr → ∃ c0 c1 c2 c3 c4, wr.cell? ⟨kb, ko + k * 5, none⟩ = some c0 ∧ wr.cell? ⟨kb, ko + k * 5 + 1, none⟩ = some c1 ∧ wr.cell? ⟨kb, ko + k * 5 + 2, none⟩ = some c2 ∧ wr.cell? ⟨kb, ko + k * 5 + 3, none⟩ = some c3 ∧ wr.cell? ⟨kb, ko + k * 5 + 4, none⟩ = some c4 ∧
      Calls Try.prog 41 #[pt b 0, .agg #[c0, c1, c2, c3, c4]] wr fun e w' => e = .returned (.tuple #[]) ∧ S (k + 1) w')
    (S2 : World → Prop) (z : Int) (d : Bool) (hd : decide (z < 0) = d) (hop : ∀ wr, S len wr → Calls Try.prog 52 #[.string t] wr fun e w' => e = .returned (.int .i64 z) ∧ S2 w')
    (hput : ∀ wr, S2 wr → ∃ β, wr.cell? ⟨b, 2, none⟩ = some (.bool β) ∧ wr.frozen? ⟨b, 2, none⟩ = false ∧
      Calls Try.prog 21 #[pt b 0, .agg #[.int .i64 z, .int .i64 0, .float .f64 0, .string ⟨#[]⟩]] (wr.setCell ⟨b, 2, none⟩ (.bool (β || d))) fun e w' => (∃ i, e = .returned (.int .i64 i)) ∧ Q w') :
    Calls Try.prog 41 #[pt b 0, .agg #[.int .i64 18, .string t, .float .f64 x, .slice ao len cap, .int .i64 a]] w fun e w' => e = .returned (.tuple #[]) ∧ Q w' := by
  have hmm := @run_makeMap Try.prog
  have hown0 : ((Wb w 18 t x (.slice ao len cap) a).alloc (.map #[] 0)).ownsMap Try.prog 3 RI (w.heap.size + 1) 0 (.map []) := wb_made w 18 t x (.slice ao len cap) a
  have hk0 := kp_alloc (Wb w 18 t x (.slice ao len cap) a) (.map #[] 0)
  go_enter Try.func41, Try.ntmps41
  go_wp2_with (first | (refine wpList_insert_own _ rfl (.tmp 13) _ _ 83 rfl 3 3 law3 Try.underlying83 RI (w.heap.size + 1) _ _ rfl (by assumption) (by decide) _ _ _ rfl rfl (key3 (by decide)) _ _ (RI_int (by decide)) ?_; intro w1 hown1 hgrow1; have hk1 := kp_stepb (by assumption) hgrow1; clear hgrow1; obtain ⟨y0, y1, y2, y3⟩ := kp_boxed hk1) | (at_lookup; refine wpList_lookup_own_ok_int _ rfl _ _ 83 rfl 3 3 .i64 law3 Try.underlying83 Try.underlying3 (zero3 _) (w.heap.size + 1) 5 (kidsD kidsE) rfl hown1 _ _ rfl (key3 (by decide)) ?_; intro c hat hwc; obtain ⟨hcc, hhas⟩ := kids_look hat; rw [hhas]; obtain rfl : c = 2 := hcc; clear hat))
  have hSs := hS0 _ hk1
  clear hk0 hk1 hown0 hown1 hS0 y0 y1 y2 y3
  go_loopw [7] (fun i wr => ∃ (k : Nat), k ≤ len ∧ i = .int .i64 k ∧ S k wr) (fun i _ => len - (intOf i).toNat)
  case atStart => exact ⟨0, by omega, rfl, hSs⟩
  case round =>
    obtain ⟨k, hkl, rfl, hS⟩ := hrel
    obtain ⟨z0, z1, z2, z3⟩ := hSc _ _ hS
    by_cases hlt : k < len
    · obtain ⟨kb, ko, rfl⟩ := hao k hlt
      obtain ⟨c0, c1, c2, c3, c4, g0, g1, g2, g3, g4, hcall⟩ := hkid k _ kb ko rfl hlt hS
      clear hkid hao hSc
      go_wp2_with (go_at_call 41; refine Calls.mono hcall ?_; rintro e w2 ⟨rfl, h2⟩)
      go_roundw
      case rel => first | exact ⟨k + 1, by omega, by go_num, h2⟩ | ((repeat apply Exists.intro); exact ⟨⟨k + 1, by omega, by go_num, h2⟩, rfl⟩)
      case measure => simp [intOf]; omega
    · obtain rfl : k = len := by omega
      clear hkid hao
      have hop := hop _ hS
      clear hSc
      go_wp2_with (first | (go_at_call 52; refine Calls.mono hop ?_; rintro e w3 ⟨rfl, hs2⟩; obtain ⟨β, q0, q1, hput2⟩ := hput _ hs2; clear hput hop; cases β <;> cases d <;> simp only [Bool.or_false, Bool.or_true] at hput2) | (go_at_call 21; refine Calls.mono hput2 ?_; rintro e w3 ⟨⟨i, rfl⟩, h3⟩))
      all_goals
        go_end0
        exact ⟨rfl, h3⟩
end Go.Proofs.Ytfkgfibmhhlemaa
namespace Go.Proofs.Ytfkgfibmhhlemaa
open Go.RowKit Go.Maps Go.WideMaps
set_option maxRecDepth 100000 in
set_option maxHeartbeats 4000000 in
theorem mexpr_19 (S : Nat → World → Prop) (Q : World → Prop) (b : Nat) (w : World) (t : ByteArray) (x : Nat) (ao : Option Addr) (len cap : Nat) (hl : len ≤ cap) (hcap : cap ≤ 9223372036854775807) (a : Int)
    (hao : ∀ k, k < len → ∃ kb ko, ao = some ⟨kb, ko, none⟩)
    (hS0 : ∀ wi, Kp (fun _ => False) (Wb w 19 t x (.slice ao len cap) a) wi → S 0 wi)
    (hSc : ∀ k wr, S k wr → Boxed wr w.heap.size 19 t x (.slice ao len cap))
    (hkid : ∀ k wr kb ko, ao = some ⟨kb, ko, none⟩ → k < len → S k wr → ∃ c0 c1 c2 c3 c4, wr.cell? ⟨kb, ko + k * 5, none⟩ = some c0 ∧ wr.cell? ⟨kb, ko + k * 5 + 1, none⟩ = some c1 ∧ wr.cell? ⟨kb, ko + k * 5 + 2, none⟩ = some c2 ∧ wr.cell? ⟨kb, ko + k * 5 + 3, none⟩ = some c3 ∧ wr.cell? ⟨kb, ko + k * 5 + 4, none⟩ = some c4 ∧
      Calls Try.prog 41 #[pt b 0, .agg #[c0, c1, c2, c3, c4]] wr fun e w' => e = .returned (.tuple #[]) ∧ S (k + 1) w')
    (S2 : ByteArray → Int → Int → Bool → World → Prop)
    (hfind : ∀ wr, S len wr → Calls Try.prog 53 #[.string t] wr fun e w' => ∃ nm fa fc is, e = .returned (.tuple #[.agg #[.string nm, .int .i64 fa, .int .i64 fc], .bool is]) ∧ S2 nm fa fc is w')
    (hput : ∀ nm fa fc is w', S2 nm fa fc is w' → (∀ o, Boxed (w'.alloc o) w.heap.size 19 t x (.slice ao len cap)) ∧ (∀ o v, Boxed ((w'.alloc o).setCell ⟨b, 2, none⟩ v) w.heap.size 19 t x (.slice ao len cap)) ∧ ∃ β d, (fa != (len : Int)) = d ∧ (fa == (len : Int)) = !d ∧ (∀ o, (w'.alloc o).cell? ⟨b, 2, none⟩ = some (.bool β)) ∧ (∀ o, (w'.alloc o).frozen? ⟨b, 2, none⟩ = false) ∧
      Calls Try.prog 21 #[pt b 0, .agg #[.int .i64 17, .int .i64 len, .float .f64 0, .string t]] ((w'.alloc (.cells #[.string nm, .int .i64 fa, .int .i64 fc] 92)).setCell ⟨b, 2, none⟩ (.bool (β || !is || d))) fun e w' => (∃ i, e = .returned (.int .i64 i)) ∧ Q w') :
    Calls Try.prog 41 #[pt b 0, .agg #[.int .i64 19, .string t, .float .f64 x, .slice ao len cap, .int .i64 a]] w fun e w' => e = .returned (.tuple #[]) ∧ Q w' := by
  have hmm := @run_makeMap Try.prog
  have hown0 : ((Wb w 19 t x (.slice ao len cap) a).alloc (.map #[] 0)).ownsMap Try.prog 3 RI (w.heap.size + 1) 0 (.map []) := wb_made w 19 t x (.slice ao len cap) a
  have hk0 := kp_alloc (Wb w 19 t x (.slice ao len cap) a) (.map #[] 0)
  go_enter Try.func41, Try.ntmps41
  go_wp2_with (first | (refine wpList_insert_own _ rfl (.tmp 13) _ _ 83 rfl 3 3 law3 Try.underlying83 RI (w.heap.size + 1) _ _ rfl (by assumption) (by decide) _ _ _ rfl rfl (key3 (by decide)) _ _ (RI_int (by decide)) ?_; intro w1 hown1 hgrow1; have hk1 := kp_stepb (by assumption) hgrow1; clear hgrow1; obtain ⟨y0, y1, y2, y3⟩ := kp_boxed hk1) | (at_lookup; refine wpList_lookup_own_ok_int _ rfl _ _ 83 rfl 3 3 .i64 law3 Try.underlying83 Try.underlying3 (zero3 _) (w.heap.size + 1) 5 (kidsD kidsE) rfl hown1 _ _ rfl (key3 (by decide)) ?_; intro c hat hwc; obtain ⟨hcc, hhas⟩ := kids_look hat; rw [hhas]; obtain rfl : c = 0 := hcc; clear hat))
  have hSs := hS0 _ hk1
  clear hk0 hk1 hown0 hown1 hS0 y0 y1 y2 y3
  go_loopw [7] (fun i wr => ∃ (k : Nat), k ≤ len ∧ i = .int .i64 k ∧ S k wr) (fun i _ => len - (intOf i).toNat)
  case atStart => exact ⟨0, by omega, rfl, hSs⟩
  case round =>
    obtain ⟨k, hkl, rfl, hS⟩ := hrel
    obtain ⟨z0, z1, z2, z3⟩ := hSc _ _ hS
    by_cases hlt : k < len
    · obtain ⟨kb, ko, rfl⟩ := hao k hlt
      obtain ⟨c0, c1, c2, c3, c4, g0, g1, g2, g3, g4, hcall⟩ := hkid k _ kb ko rfl hlt hS
      clear hkid hao hSc
      go_wp2_with (go_at_call 41; refine Calls.mono hcall ?_; rintro e w2 ⟨rfl, h2⟩)
      go_roundw
      case rel => first | exact ⟨k + 1, by omega, by go_num, h2⟩ | ((repeat apply Exists.intro); exact ⟨⟨k + 1, by omega, by go_num, h2⟩, rfl⟩)
      case measure => simp [intOf]; omega
    · obtain rfl : k = len := by omega
      clear hkid hao
      have hfind := hfind _ hS
      clear hSc
      go_wp2_with (first | (go_at_call 53; refine Calls.mono hfind ?_; rintro e w3 ⟨nm, fa, fc, is, rfl, hs2⟩; obtain ⟨hb1, hb2, β, d, hd, hd2, q0, q1, hput2⟩ := hput _ _ _ _ _ hs2; have a0 := fun o => (hb1 o).c0; have a1 := fun o => (hb1 o).c1; have a3 := fun o => (hb1 o).c3; have b1 := fun o v => (hb2 o v).c1; have b3 := fun o v => (hb2 o v).c3; clear hput hfind hb1 hb2; cases β <;> cases is <;> cases d <;> simp only [Bool.or_false, Bool.or_true, Bool.not_true, Bool.not_false] at hput2 hd2) | (go_at_call 21; refine Calls.mono hput2 ?_; rintro e w3 ⟨⟨i, rfl⟩, h3⟩))
      all_goals first
        | (go_end0; exact ⟨rfl, h3⟩)
        | trace_state
set_option maxRecDepth 100000 in
set_option maxHeartbeats 4000000 in
/-- what is no expression, or has another number of kids -/
theorem mexpr_no (Q : World → Prop) (b : Nat) (w : World) (k : Int) (hk : (k != 19) = true) (hwf : (Lit.int .i64 k).wf = true) (t : ByteArray) (x : Nat) (ao : Option Addr) (len cap : Nat) (a : Int)
    (hbad : kidsOf kidsE k = none ∨ ∃ c, kidsOf kidsE k = some c ∧ (c != (len : Int)) = true)
    (hQ : ∀ wi, Kp (fun _ => False) (Wb w k t x (.slice ao len cap) a) wi → (∃ β, wi.cell? ⟨b, 2, none⟩ = some (.bool β)) ∧ wi.frozen? ⟨b, 2, none⟩ = false ∧ Q (wi.setCell ⟨b, 2, none⟩ (.bool true))) :
    Calls Try.prog 41 #[pt b 0, .agg #[.int .i64 k, .string t, .float .f64 x, .slice ao len cap, .int .i64 a]] w fun e w' => e = .returned (.tuple #[]) ∧ Q w' := by
  have hmm := @run_makeMap Try.prog
  have hown0 : ((Wb w k t x (.slice ao len cap) a).alloc (.map #[] 0)).ownsMap Try.prog 3 RI (w.heap.size + 1) 0 (.map []) := wb_made w k t x (.slice ao len cap) a
  have hk0 := kp_alloc (Wb w k t x (.slice ao len cap) a) (.map #[] 0)
  have hkey := key3 hwf
  go_enter Try.func41, Try.ntmps41
  rcases hbad with hbad | ⟨c0, hbad, hcl⟩
  · go_wp2_with (first | (refine wpList_insert_own _ rfl (.tmp 13) _ _ 83 rfl 3 3 law3 Try.underlying83 RI (w.heap.size + 1) _ _ rfl (by assumption) (by decide) _ _ _ rfl rfl (key3 (by decide)) _ _ (RI_int (by decide)) ?_; intro w1 hown1 hgrow1; have hk1 := kp_stepb (by assumption) hgrow1; clear hgrow1; obtain ⟨y0, y1, y2, y3⟩ := kp_boxed hk1) | (at_lookup; refine wpList_lookup_own_ok_int _ rfl _ _ 83 rfl 3 3 .i64 law3 Try.underlying83 Try.underlying3 (zero3 _) (w.heap.size + 1) 5 (kidsD kidsE) rfl hown1 _ _ rfl hkey ?_; intro c hat hwc; obtain ⟨hcc, hhas⟩ := kids_look hat; rw [hhas]; rw [hbad] at hcc ⊢; obtain ⟨⟨β, q0⟩, q1, hq⟩ := hQ _ hk1; clear hat))
    refine bodyPost_ret (results_none rfl _ _ _) rfl ⟨rfl, hq⟩
  · go_wp2_with (first | (refine wpList_insert_own _ rfl (.tmp 13) _ _ 83 rfl 3 3 law3 Try.underlying83 RI (w.heap.size + 1) _ _ rfl (by assumption) (by decide) _ _ _ rfl rfl (key3 (by decide)) _ _ (RI_int (by decide)) ?_; intro w1 hown1 hgrow1; have hk1 := kp_stepb (by assumption) hgrow1; clear hgrow1; obtain ⟨y0, y1, y2, y3⟩ := kp_boxed hk1) | (at_lookup; refine wpList_lookup_own_ok_int _ rfl _ _ 83 rfl 3 3 .i64 law3 Try.underlying83 Try.underlying3 (zero3 _) (w.heap.size + 1) 5 (kidsD kidsE) rfl hown1 _ _ rfl hkey ?_; intro c hat hwc; obtain ⟨hcc, hhas⟩ := kids_look hat; rw [hhas]; rw [hbad] at hcc ⊢; obtain rfl : c = c0 := hcc; obtain ⟨⟨β, q0⟩, q1, hq⟩ := hQ _ hk1; clear hat))
    refine bodyPost_ret (results_none rfl _ _ _) rfl ⟨rfl, hq⟩
end Go.Proofs.Ytfkgfibmhhlemaa
