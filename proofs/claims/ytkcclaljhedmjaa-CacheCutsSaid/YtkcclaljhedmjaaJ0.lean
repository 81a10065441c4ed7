/- JournalSteps: the plain side (no program in sight): blocks of a device as one row of bytes, the head's bytes, a group under way. No conditions. -/
namespace Go.Proofs.Ytkcclaljhedmjaa
/-- one block written anew -/
def upd {B : Type} (f : Nat → B) (k : Nat) (b : B) : Nat → B := fun i => if i = k then b else f i
theorem upd_same {B : Type} (f : Nat → B) (k : Nat) (b : B) : upd f k b k = b := by simp [upd]
theorem upd_other {B : Type} (f : Nat → B) {k i : Nat} (b : B) (h : i ≠ k) : upd f k b i = f i := by simp [upd, h]
/-- all blocks one behind the other -/
def flat (f : Nat → List Nat) : Nat → List Nat
  | 0 => []
  | n + 1 => flat f n ++ f n
theorem flat_length {f : Nat → List Nat} (h : ∀ k, (f k).length = 256) (n : Nat) : (flat f n).length = 256 * n := by
  induction n with
  | zero => rfl
  | succ n ih => rw [flat, List.length_append, ih, h]; omega
theorem flat_get {f : Nat → List Nat} (h : ∀ k, (f k).length = 256) (n k i : Nat) (hk : k < n) (hi : i < 256) : (flat f n)[256 * k + i]? = (f k)[i]? := by
  induction n with
  | zero => omega
  | succ n ih =>
    have hl := flat_length h n
    by_cases hkn : k < n
    · rw [flat, List.getElem?_append_left (by omega), ih hkn]
    · have : k = n := by omega
      subst this
      rw [flat, List.getElem?_append_right (by omega), hl, Nat.add_sub_cancel_left]
theorem flat_ext {f : Nat → List Nat} (h : ∀ k, (f k).length = 256) (n : Nat) (xs : List Nat) (hl : xs.length = 256 * n) (hx : ∀ k i, k < n → i < 256 → xs[256 * k + i]? = (f k)[i]?) : xs = flat f n := by
  apply List.ext_getElem?
  intro p
  by_cases hp : p < 256 * n
  · have h1 := hx (p / 256) (p % 256) (by omega) (by omega)
    have h2 := flat_get h n (p / 256) (p % 256) (by omega) (by omega)
    have e : 256 * (p / 256) + p % 256 = p := by omega
    rw [e] at h1 h2
    rw [h1, h2]
  · rw [List.getElem?_eq_none (by omega), List.getElem?_eq_none (by rw [flat_length h]; omega)]
theorem flat_slice {f : Nat → List Nat} (h : ∀ k, (f k).length = 256) (n k : Nat) (hk : k < n) : ((flat f n).drop (256 * k)).take 256 = f k := by
  apply List.ext_getElem?
  intro i
  by_cases hi : i < 256
  · rw [List.getElem?_take, if_pos hi, List.getElem?_drop, flat_get h n k i hk hi]
  · rw [List.getElem?_take, if_neg hi, List.getElem?_eq_none (by rw [h]; omega)]
theorem flat_congr {f g : Nat → List Nat} (n : Nat) (h : ∀ k, k < n → f k = g k) : flat f n = flat g n := by
  induction n with
  | zero => rfl
  | succ n ih => rw [flat, flat, ih fun k hk => h k (by omega), h n (by omega)]
theorem flat_upd {f : Nat → List Nat} (h : ∀ k, (f k).length = 256) (n k : Nat) (s : List Nat) (hs : s.length = 256) (hk : k < n) : (flat f n).take (256 * k) ++ s ++ (flat f n).drop (256 * (k + 1)) = flat (upd f k s) n := by
  have hl := flat_length h n
  have hu : ∀ i, (upd f k s i).length = 256 := fun i => by
    unfold upd; split
    · exact hs
    · exact h i
  apply flat_ext hu
  · simp [hs, hl]; omega
  · intro j i hj hi
    rcases Nat.lt_trichotomy j k with hjk | hjk | hjk
    · rw [upd_other _ _ (by omega), List.append_assoc, List.getElem?_append_left (by simp [hl]; omega), List.getElem?_take, if_pos (by omega), flat_get h n j i hj hi]
    · subst hjk
      have ht : ((flat f n).take (256 * j)).length = 256 * j := by simp [hl]; omega
      rw [upd_same, List.append_assoc, List.getElem?_append_right (by omega), ht, Nat.add_sub_cancel_left, List.getElem?_append_left (by omega)]
    · have ht : ((flat f n).take (256 * k) ++ s).length = 256 * (k + 1) := by simp [hl, hs]; omega
      rw [upd_other _ _ (by omega), List.getElem?_append_right (by omega), ht, List.getElem?_drop, show 256 * (k + 1) + (256 * j + i - 256 * (k + 1)) = 256 * j + i by omega, flat_get h n j i hj hi]
/-- a number in four bytes -/
def le4 (x : Nat) : List Nat := [x % 256, x / 256 % 256, x / 65536 % 256, x / 16777216 % 256]
def ofLe4 (s : List Nat) : Nat := s.getD 0 0 + 256 * s.getD 1 0 + 65536 * s.getD 2 0 + 16777216 * s.getD 3 0
theorem ofLe4_le4 (x : Nat) (h : x < 4294967296) : ofLe4 (le4 x) = x := by
  simp [ofLe4, le4]; omega
def les : List Nat → List Nat
  | [] => []
  | x :: xs => le4 x ++ les xs
theorem les_length (xs : List Nat) : (les xs).length = 4 * xs.length := by
  induction xs with
  | nil => rfl
  | cons x xs ih => rw [les, List.length_append, ih]; simp [le4]; omega
theorem les_append (xs ys : List Nat) : les (xs ++ ys) = les xs ++ les ys := by
  induction xs with
  | nil => rfl
  | cons x xs ih => rw [List.cons_append, les, les, ih, List.append_assoc]
theorem les_slice (xs ys : List Nat) (i : Nat) (hi : i < xs.length) : (((les xs) ++ ys).drop (4 * i)).take 4 = le4 (xs.getD i 0) := by
  induction xs generalizing i with
  | nil => simp at hi
  | cons x xs ih =>
    cases i with
    | zero => simp [les, le4]
    | succ i =>
      rw [les, List.append_assoc, show 4 * (i + 1) = (le4 x).length + 4 * i by simp [le4]; omega, ← List.drop_drop, List.drop_left]
      simpa using ih i (by simpa using hi)
/-- a head: its mark, how many, their homes, bytes 0 -/
def headL (ks : List Nat) : List Nat := [79, 74, 82, 78] ++ les (ks.length :: ks) ++ List.replicate (256 - (8 + 4 * ks.length)) 0
theorem headL_length (ks : List Nat) (h : ks.length ≤ 40) : (headL ks).length = 256 := by
  simp [headL, les_length]; omega
theorem headL_mark (ks : List Nat) : (headL ks).take 4 = [79, 74, 82, 78] := by simp [headL]
theorem headL_many (ks : List Nat) : ((headL ks).drop 4).take 4 = le4 ks.length := by
  have := les_slice (ks.length :: ks) (List.replicate (256 - (8 + 4 * ks.length)) 0) 0 (by simp)
  simpa [headL] using this
theorem headL_home (ks : List Nat) (i : Nat) (hi : i < ks.length) : ((headL ks).drop (8 + 4 * i)).take 4 = le4 (ks.getD i 0) := by
  have := les_slice (ks.length :: ks) (List.replicate (256 - (8 + 4 * ks.length)) 0) (i + 1) (by simp; omega)
  rw [headL, List.append_assoc, show 8 + 4 * i = [79, 74, 82, 78].length + 4 * (i + 1) by simp; omega, ← List.drop_drop, List.drop_left, this]
  simp
/-- is a block a home? -/
structure Pl where
  n : Nat
  fr : Nat
  bl : Nat
  ok : 44 ≤ bl ∧ fr + bl ≤ n ∧ n ≤ 1000
def Home (p : Pl) (k : Nat) : Prop := k < p.n ∧ (k < p.fr ∨ p.fr + p.bl ≤ k)
instance (p : Pl) (k : Nat) : Decidable (Home p k) := inferInstanceAs (Decidable (_ ∧ _))
theorem Home.ne {p : Pl} {k j : Nat} (h : Home p k) (hj : p.fr ≤ j) (hj2 : j < p.fr + p.bl) : k ≠ j := by
  rcases h with ⟨_, h | h⟩ <;> omega
/-- nothing is under way: all homes as told -/
def Rest {B : Type} (p : Pl) (e0 : B) (f : Nat → B) (h : Nat → B) : Prop := f p.fr = e0 ∧ ∀ k, Home p k → f k = h k
/-- homes with a group's blocks -/
def over {B : Type} (h : Nat → B) (s : Nat → Option B) : Nat → B := fun k => (s k).getD (h k)
/-- a group: its homes in a row, each once -/
structure Grp {B : Type} (p : Pl) (s : Nat → Option B) (ks : List Nat) : Prop where
  nd : ks.Nodup
  dom : ∀ k, k ∈ ks ↔ (s k).isSome
  home : ∀ k, k ∈ ks → Home p k
  few : ks.length ≤ 40
/-- the first n blocks of a group lie in the journal -/
def Logged {B : Type} (p : Pl) (f : Nat → B) (s : Nat → Option B) (ks : List Nat) (n : Nat) : Prop := ∀ i, i < n → i < ks.length → s (ks.getD i 0) = some (f (p.fr + 1 + i))
/-- a group is under way, its first n are at home -/
structure Under {B : Type} (p : Pl) (hd : List Nat → B) (f h : Nat → B) (s : Nat → Option B) (ks : List Nat) (n : Nat) : Prop where
  hd : f p.fr = hd ks
  log : Logged p f s ks ks.length
  out : ∀ k, Home p k → s k = none → f k = h k
  way : ∀ k, Home p k → f k = h k ∨ some (f k) = s k
  done : ∀ i, i < n → i < ks.length → some (f (ks.getD i 0)) = s (ks.getD i 0)
theorem getD_mem {ks : List Nat} {i : Nat} (hi : i < ks.length) : ks.getD i 0 ∈ ks := by
  simp [hi]
theorem Rest.log {p : Pl} {B : Type} {e0 : B} {f h : Nat → B} {s : Nat → Option B} {ks : List Nat} {n : Nat} (g : Grp p s ks) (hr : Rest p e0 f h) (hl : Logged p f s ks n) (hn : n < ks.length) (b : B) (hb : s (ks.getD n 0) = some b) : Rest p e0 (upd f (p.fr + 1 + n) b) h ∧ Logged p (upd f (p.fr + 1 + n) b) s ks (n + 1) := by
  have hf := g.few
  have hp := p.ok
  refine ⟨⟨by rw [upd_other _ _ (by omega)]; exact hr.1, fun k hk => ?_⟩, fun i hi hik => ?_⟩
  · rw [upd_other _ _ (hk.ne (by omega) (by omega))]; exact hr.2 k hk
  · by_cases h1 : i = n
    · subst h1; rw [upd_same]; exact hb
    · rw [upd_other _ _ (by omega)]; exact hl i (by omega) hik
theorem Rest.way {p : Pl} {B : Type} {e0 : B} {hd : List Nat → B} {f h : Nat → B} {s : Nat → Option B} {ks : List Nat} (hr : Rest p e0 f h) (hl : Logged p f s ks ks.length) : Under p hd (upd f p.fr (hd ks)) h s ks 0 := by
  have hp := p.ok
  refine ⟨upd_same _ _ _, fun i hi hik => ?_, fun k hk _ => ?_, fun k hk => .inl ?_, fun i hi => by omega⟩
  · rw [upd_other _ _ (by omega)]; exact hl i hi hik
  · rw [upd_other _ _ (hk.ne (by omega) (by omega))]; exact hr.2 k hk
  · rw [upd_other _ _ (hk.ne (by omega) (by omega))]; exact hr.2 k hk
theorem Under.next {p : Pl} {B : Type} {hd : List Nat → B} {f h : Nat → B} {s : Nat → Option B} {ks : List Nat} {n : Nat} (g : Grp p s ks) (u : Under p hd f h s ks n) (hn : n < ks.length) (b : B) (hb : s (ks.getD n 0) = some b) : Under p hd (upd f (ks.getD n 0) b) h s ks (n + 1) := by
  have hm := g.home _ (getD_mem hn)
  have hf := g.few
  have hp := p.ok
  refine ⟨?_, fun i hi hik => ?_, fun k hk hs => ?_, fun k hk => ?_, fun i hi hik => ?_⟩
  · rw [upd_other _ _ (hm.ne (by omega) (by omega)).symm]; exact u.hd
  · rw [upd_other _ _ (hm.ne (by omega) (by omega)).symm]; exact u.log i hi hik
  · rw [upd_other _ _ (fun e => by rw [e, hb] at hs; cases hs)]; exact u.out k hk hs
  · by_cases e : k = ks.getD n 0
    · subst e; rw [upd_same]; exact .inr hb.symm
    · rw [upd_other _ _ e]; exact u.way k hk
  · by_cases e : ks.getD i 0 = ks.getD n 0
    · rw [e, upd_same]; exact hb.symm
    · rw [upd_other _ _ e]
      by_cases h1 : i = n
      · subst h1; exact absurd rfl e
      · exact u.done i (by omega) hik
theorem Under.rest {p : Pl} {B : Type} {hd : List Nat → B} {f h : Nat → B} {s : Nat → Option B} {ks : List Nat} (g : Grp p s ks) (u : Under p hd f h s ks ks.length) (e0 : B) : Rest p e0 (upd f p.fr e0) (over h s) := by
  have hp := p.ok
  refine ⟨upd_same _ _ _, fun k hk => ?_⟩
  rw [upd_other _ _ (hk.ne (by omega) (by omega))]
  cases hs : s k with
  | none => rw [u.out k hk hs, over, hs]; rfl
  | some b =>
    have hm := (g.dom k).2 (by rw [hs]; rfl)
    obtain ⟨i, hi, he⟩ := List.getElem_of_mem hm
    have hd := u.done i hi hi
    have e : ks.getD i 0 = k := by simp [hi, he]
    rw [e, hs] at hd
    rw [over, hs]
    exact Option.some.inj hd
theorem Under.again {p : Pl} {B : Type} {hd : List Nat → B} {f h : Nat → B} {s : Nat → Option B} {ks : List Nat} {n : Nat} (u : Under p hd f h s ks n) : Under p hd f h s ks 0 := ⟨u.hd, u.log, u.out, u.way, fun i hi => by omega⟩
/-- behind a cut: as it was, under way, or done -/
def Cutted {B : Type} (p : Pl) (hd : List Nat → B) (f h : Nat → B) (s : Nat → Option B) (ks : List Nat) : Prop := Rest p (hd []) f h ∨ Under p hd f h s ks 0 ∨ Rest p (hd []) f (over h s)
end Go.Proofs.Ytkcclaljhedmjaa
