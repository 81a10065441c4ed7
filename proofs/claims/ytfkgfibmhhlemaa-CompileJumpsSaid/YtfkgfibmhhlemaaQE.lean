/- CompileTrees: a part of the proof (E0 E1 E2 E3 E4 E5 E6 E7 E8 E9). No conditions. -/
import Derived.Test.YtfkgfibmhhlemaaQD
namespace Go.Proofs.Ytfkgfibmhhlemaa
open Go.RowKit Go.Maps Go.WideMaps
/-- a call that lays something, or throws -/
abbrev Does (f : Nat) (args : Array Value) (w : World) (S T : World → Prop) : Prop := Calls Try.prog f args w fun e w' => (e = .returned (.tuple #[]) ∧ S w') ∨ (e = thrown ∧ T w')
abbrev pt (b o : Nat) : Value := .pointer (some ⟨b, o, none⟩)
set_option maxRecDepth 100000 in
set_option maxHeartbeats 800000 in
theorem stmt_one (T S1 S2 : World → Prop) (b : Nat) (w : World) (R : Nat → Prop) (nb no kb ko : Nat) (t : ByteArray) (x : Nat) (cap : Nat) (ks : List Nd) (a : Int) (hn : NodeP R w nb no 12 t x (.slice (some ⟨kb, ko, none⟩) 1 cap) ks a)
    (hexpr : Does 38 #[pt b 0, pt kb ko] w S1 T)
    (hput : ∀ w1, S1 w1 → Does 19 #[pt b 0, .agg #[.int .i64 18, .int .i64 0, .float .f64 0, .string ⟨#[]⟩]] w1 S2 T) :
    Does 27 #[pt b 0, pt nb no] w S2 T := by
  obtain ⟨_, c0, c1, c2, c3, c4, _, _⟩ := hn
  have hk := kids_ok nb no (some ⟨kb, ko, none⟩) 1 cap w c3
  go_enter Try.func27, Try.ntmps27
  go_wp2_with (first | (go_at_call 39; refine hk.mono ?_; rintro e w' ⟨rfl, rfl⟩) | (go_at_call 38; refine hexpr.mono ?_; rintro e w1 (⟨rfl, h1⟩ | ⟨rfl, h1⟩)) | (go_at_call 19; refine (hput _ h1).mono ?_; rintro e w2 (⟨rfl, h2⟩ | ⟨rfl, h2⟩)))
  all_goals first
    | (go_end0; exact .inl ⟨rfl, by assumption⟩)
    | exact ⟨rfl, .inr ⟨rfl, by assumption⟩⟩
end Go.Proofs.Ytfkgfibmhhlemaa
namespace Go.Proofs.Ytfkgfibmhhlemaa
open Go.RowKit Go.Maps Go.WideMaps
set_option maxRecDepth 100000 in
set_option maxHeartbeats 800000 in
theorem stmt_fail (T S1 S2 : World → Prop) (b : Nat) (w : World) (R : Nat → Prop) (nb no kb ko : Nat) (t : ByteArray) (x : Nat) (cap : Nat) (ks : List Nd) (a : Int) (hn : NodeP R w nb no 13 t x (.slice (some ⟨kb, ko, none⟩) 1 cap) ks a)
    (hexpr : Does 38 #[pt b 0, pt kb ko] w S1 T)
    (hput : ∀ w1, S1 w1 → Does 19 #[pt b 0, .agg #[.int .i64 19, .int .i64 0, .float .f64 0, .string ⟨#[]⟩]] w1 S2 T) :
    Does 27 #[pt b 0, pt nb no] w S2 T := by
  obtain ⟨_, c0, c1, c2, c3, c4, _, _⟩ := hn
  have hk := kids_ok nb no (some ⟨kb, ko, none⟩) 1 cap w c3
  go_enter Try.func27, Try.ntmps27
  go_wp2_with (first | (go_at_call 39; refine hk.mono ?_; rintro e w' ⟨rfl, rfl⟩) | (go_at_call 38; refine hexpr.mono ?_; rintro e w1 (⟨rfl, h1⟩ | ⟨rfl, h1⟩)) | (go_at_call 19; refine (hput _ h1).mono ?_; rintro e w2 (⟨rfl, h2⟩ | ⟨rfl, h2⟩)))
  all_goals first
    | (go_end0; exact .inl ⟨rfl, by assumption⟩)
    | exact ⟨rfl, .inr ⟨rfl, by assumption⟩⟩
/-- a closure that closes a jump -/
abbrev shut (e1 a1 : Nat) : Value := .func (.func 51) #[] #[pt e1 0, pt a1 0]
/-- a jump is laid open, or it throws -/
abbrev Opens (w : World) (b : Nat) (op : Int) (S : Nat → Nat → World → Prop) (T : World → Prop) : Prop := Calls Try.prog 40 #[pt b 0, .int .i64 op] w fun e w' => (∃ e1 a1, e = .returned (shut e1 a1) ∧ S e1 a1 w') ∨ (e = thrown ∧ T w')
set_option maxRecDepth 100000 in
set_option maxHeartbeats 800000 in
/-- a loop -/
theorem stmt_while (T S1 : World → Prop) (S2 S3 S4 : Nat → Nat → World → Prop) (S5 : World → Prop) (b : Nat) (w : World) (R : Nat → Prop) (nb no kb ko : Nat) (t : ByteArray) (x : Nat) (cap : Nat) (ks : List Nd) (a : Int) (hn : NodeP R w nb no 11 t x (.slice (some ⟨kb, ko, none⟩) 2 cap) ks a)
    (ao : Option Addr) (n c : Nat) (hb : w.cell? ⟨b, 0, none⟩ = some (.slice ao n c))
    (hexpr : Does 38 #[pt b 0, pt kb ko] w S1 T)
    (hopen : ∀ w1, S1 w1 → Opens w1 b 16 S2 T)
    (hc : ∀ e1 a1 w2, S2 e1 a1 w2 → w2.cell? ⟨nb, no + 3, none⟩ = some (.slice (some ⟨kb, ko, none⟩) 2 cap))
    (hblk : ∀ e1 a1 w2, S2 e1 a1 w2 → Does 18 #[pt b 0, pt kb (ko + 5)] w2 (S3 e1 a1) T)
    (hput : ∀ e1 a1 w3, S3 e1 a1 w3 → Does 19 #[pt b 0, .agg #[.int .i64 15, .int .i64 n, .float .f64 0, .string ⟨#[]⟩]] w3 (S4 e1 a1) T)
    (hshut : ∀ e1 a1 w4, S4 e1 a1 w4 → Does 51 #[pt e1 0, pt a1 0] w4 S5 T) :
    Does 27 #[pt b 0, pt nb no] w S5 T := by
  obtain ⟨_, c0, c1, c2, c3, c4, _, _⟩ := hn
  have hk := kids_ok nb no (some ⟨kb, ko, none⟩) 2 cap w c3
  go_enter Try.func27, Try.ntmps27
  go_wp2_with (first | (go_at_call 39; refine hk.mono ?_; rintro e w' ⟨rfl, rfl⟩) | (go_at_call 38; refine hexpr.mono ?_; rintro e w1 (⟨rfl, h1⟩ | ⟨rfl, h1⟩)) | (go_at_call 40; refine (hopen _ h1).mono ?_; rintro e w2 (⟨e1, a1, rfl, h2⟩ | ⟨rfl, h2⟩); have d3 := hc _ _ _ h2) | (go_at_call 18; refine (hblk _ _ _ h2).mono ?_; rintro e w3 (⟨rfl, h3⟩ | ⟨rfl, h3⟩)) | (go_at_call 19; refine (hput _ _ _ h3).mono ?_; rintro e w4 (⟨rfl, h4⟩ | ⟨rfl, h4⟩)) | (go_at_call 51; refine (hshut _ _ _ h4).mono ?_; rintro e w5 (⟨rfl, h5⟩ | ⟨rfl, h5⟩)))
  all_goals first
    | (go_end0; exact .inl ⟨rfl, by assumption⟩)
    | exact ⟨rfl, .inr ⟨rfl, by assumption⟩⟩
    | trace_state
end Go.Proofs.Ytfkgfibmhhlemaa
namespace Go.Proofs.Ytfkgfibmhhlemaa
open Go.RowKit Go.Maps Go.WideMaps
section
variable (T S1 : World → Prop) (S2 S3 S4 : Nat → Nat → World → Prop) (S5 : World → Prop) (b : Nat) (w : World) (R : Nat → Prop) (nb no kb ko : Nat) (t : ByteArray) (x : Nat) (cap : Nat) (ks : List Nd) (a : Int) (hn : NodeP R w nb no 10 t x (.slice (some ⟨kb, ko, none⟩) 3 cap) ks a)
set_option maxRecDepth 100000 in
set_option maxHeartbeats 1600000 in
/-- a branch with nothing else -/
theorem stmt_if (hn : NodeP R w nb no 10 t x (.slice (some ⟨kb, ko, none⟩) 3 cap) ks a)
    (hexpr : Does 38 #[pt b 0, pt kb ko] w S1 T)
    (hopen : ∀ w1, S1 w1 → Opens w1 b 16 S2 T)
    (hc : ∀ e1 a1 w2, S2 e1 a1 w2 → w2.cell? ⟨nb, no + 3, none⟩ = some (.slice (some ⟨kb, ko, none⟩) 3 cap))
    (hblk : ∀ e1 a1 w2, S2 e1 a1 w2 → Does 18 #[pt b 0, pt kb (ko + 5)] w2 (S3 e1 a1) T)
    (hc3 : ∀ e1 a1 w3, S3 e1 a1 w3 → w3.cell? ⟨nb, no + 3, none⟩ = some (.slice (some ⟨kb, ko, none⟩) 3 cap) ∧ w3.cell? ⟨kb, ko + 10, none⟩ = some (.int .i64 0))
    (hk3 : ∀ e1 a1 w3, S3 e1 a1 w3 → Calls Try.prog 39 #[pt kb (ko + 10), .int .i64 0] w3 fun e w4 => ((∃ v, e = .returned v) ∧ S4 e1 a1 w4) ∨ (e = thrown ∧ T w4))
    (hshut : ∀ e1 a1 w4, S4 e1 a1 w4 → Does 51 #[pt e1 0, pt a1 0] w4 S5 T) :
    Does 27 #[pt b 0, pt nb no] w S5 T := by
  obtain ⟨_, c0, c1, c2, c3, c4, _, _⟩ := hn
  have hk := kids_ok nb no (some ⟨kb, ko, none⟩) 3 cap w c3
  go_enter Try.func27, Try.ntmps27
  go_wp2_with (first | (go_at_call 39; refine hk.mono ?_; rintro e w' ⟨rfl, rfl⟩; clear hk) | (go_at_call 38; refine hexpr.mono ?_; rintro e w1 (⟨rfl, h1⟩ | ⟨rfl, h1⟩)) | (go_at_call 40; refine (hopen _ h1).mono ?_; rintro e w2 (⟨e1, a1, rfl, h2⟩ | ⟨rfl, h2⟩); have d3 := hc _ _ _ h2) | (go_at_call 18; refine (hblk _ _ _ h2).mono ?_; rintro e w3 (⟨rfl, h3⟩ | ⟨rfl, h3⟩); obtain ⟨g3, g4⟩ := hc3 _ _ _ h3) | (go_at_call 39; refine (hk3 _ _ _ h3).mono ?_; rintro e w4 (⟨⟨v4, rfl⟩, h4⟩ | ⟨rfl, h4⟩)) | (go_at_call 51; refine (hshut _ _ _ h4).mono ?_; rintro e w5 (⟨rfl, h5⟩ | ⟨rfl, h5⟩)))
  all_goals first
    | (refine bodyPost_ret (results_none rfl _ _ _) rfl ?_; exact .inl ⟨rfl, by assumption⟩)
    | (go_end0; exact .inl ⟨rfl, by assumption⟩)
    | exact ⟨rfl, .inr ⟨rfl, by assumption⟩⟩
set_option maxRecDepth 100000 in
set_option maxHeartbeats 1600000 in
/-- a branch with another -/
theorem stmt_if2 (S6 : Nat → Nat → Nat → Nat → World → Prop) (S7 S9 : Nat → Nat → World → Prop) (S8 : World → Prop) (kk : Int) (hkk : (kk == 0) = false) (hn : NodeP R w nb no 10 t x (.slice (some ⟨kb, ko, none⟩) 3 cap) ks a)
    (hexpr : Does 38 #[pt b 0, pt kb ko] w S1 T)
    (hopen : ∀ w1, S1 w1 → Opens w1 b 16 S2 T)
    (hc : ∀ e1 a1 w2, S2 e1 a1 w2 → w2.cell? ⟨nb, no + 3, none⟩ = some (.slice (some ⟨kb, ko, none⟩) 3 cap))
    (hblk : ∀ e1 a1 w2, S2 e1 a1 w2 → Does 18 #[pt b 0, pt kb (ko + 5)] w2 (S3 e1 a1) T)
    (hc3 : ∀ e1 a1 w3, S3 e1 a1 w3 → w3.cell? ⟨nb, no + 3, none⟩ = some (.slice (some ⟨kb, ko, none⟩) 3 cap) ∧ w3.cell? ⟨kb, ko + 10, none⟩ = some (.int .i64 kk))
    (hopen2 : ∀ e1 a1 w3, S3 e1 a1 w3 → Opens w3 b 15 (S6 e1 a1) T)
    (hshut : ∀ e1 a1 e2 a2 w4, S6 e1 a1 e2 a2 w4 → Does 51 #[pt e1 0, pt a1 0] w4 (S7 e2 a2) T)
    (hc7 : ∀ e2 a2 w5, S7 e2 a2 w5 → w5.cell? ⟨nb, no + 3, none⟩ = some (.slice (some ⟨kb, ko, none⟩) 3 cap))
    (hblk2 : ∀ e2 a2 w5, S7 e2 a2 w5 → Does 18 #[pt b 0, pt kb (ko + 10)] w5 (S9 e2 a2) T)
    (hshut2 : ∀ e2 a2 w6, S9 e2 a2 w6 → Does 51 #[pt e2 0, pt a2 0] w6 S8 T) :
    Does 27 #[pt b 0, pt nb no] w S8 T := by
  obtain ⟨_, c0, c1, c2, c3, c4, _, _⟩ := hn
  have hk := kids_ok nb no (some ⟨kb, ko, none⟩) 3 cap w c3
  go_enter Try.func27, Try.ntmps27
  go_wp2_with (first | (go_at_call 39; refine hk.mono ?_; rintro e w' ⟨rfl, rfl⟩; clear hk) | (go_at_call 38; refine hexpr.mono ?_; rintro e w1 (⟨rfl, h1⟩ | ⟨rfl, h1⟩)) | (go_at_call 40; refine (hopen _ h1).mono ?_; rintro e w2 (⟨e1, a1, rfl, h2⟩ | ⟨rfl, h2⟩); have d3 := hc _ _ _ h2; clear hopen) | (go_at_call 18; refine (hblk _ _ _ h2).mono ?_; rintro e w3 (⟨rfl, h3⟩ | ⟨rfl, h3⟩); obtain ⟨g3, g4⟩ := hc3 _ _ _ h3; clear hblk) | (go_at_call 40; refine (hopen2 _ _ _ h3).mono ?_; rintro e w4 (⟨e2, a2, rfl, h4⟩ | ⟨rfl, h4⟩)) | (go_at_call 51; refine (hshut _ _ _ _ _ h4).mono ?_; rintro e w5 (⟨rfl, h5⟩ | ⟨rfl, h5⟩); have g7 := hc7 _ _ _ h5; clear hshut) | (go_at_call 18; refine (hblk2 _ _ _ h5).mono ?_; rintro e w6 (⟨rfl, h7⟩ | ⟨rfl, h7⟩)) | (go_at_call 51; refine (hshut2 _ _ _ h7).mono ?_; rintro e w7 (⟨rfl, h9⟩ | ⟨rfl, h9⟩)))
  all_goals first
    | (refine bodyPost_ret (results_none rfl _ _ _) rfl ?_; exact .inl ⟨rfl, by assumption⟩)
    | (go_end0; exact .inl ⟨rfl, by assumption⟩)
    | exact ⟨rfl, .inr ⟨rfl, by assumption⟩⟩
end
end Go.Proofs.Ytfkgfibmhhlemaa
namespace Go.Proofs.Ytfkgfibmhhlemaa
open Go.RowKit Go.Maps Go.WideMaps
section
variable (T S1 S2 : World → Prop) (b : Nat) (w : World) (R : Nat → Prop) (nb no kb ko : Nat) (t : ByteArray) (x : Nat) (cap : Nat) (ks : List Nd) (a : Int) (mb : Nat)
set_option maxRecDepth 100000 in
set_option maxHeartbeats 800000 in
/-- a name that is set already -/
theorem stmt_set (i : Int) (hn : NodeP R w nb no 9 t x (.slice (some ⟨kb, ko, none⟩) 1 cap) ks a)
    (hexpr : Does 38 #[pt b 0, pt kb ko] w S1 T)
    (hl : ∀ w1, S1 w1 → w1.cell? ⟨b, 1, none⟩ = some (.map (some mb)) ∧ w1.cell? ⟨nb, no + 1, none⟩ = some (.string t) ∧ (Instr.lookup 49 (.map (some mb)) (.string t) true).run Try.prog w1 = .ok (.tuple #[.int .i64 i, .bool true]) w1 ∧ (Instr.lookup 49 (.map (some mb)) (.string t) true).run Try.prog w1.drew = .ok (.tuple #[.int .i64 i, .bool true]) w1.drew)
    (hput : ∀ w1, S1 w1 → Does 19 #[pt b 0, .agg #[.int .i64 4, .int .i64 i, .float .f64 0, .string ⟨#[]⟩]] w1.drew S2 T) :
    Does 27 #[pt b 0, pt nb no] w S2 T := by
  obtain ⟨_, c0, c1, c2, c3, c4, _, _⟩ := hn
  have hk := kids_ok nb no (some ⟨kb, ko, none⟩) 1 cap w c3
  go_enter Try.func27, Try.ntmps27
  go_wp2_with (first | (go_at_call 39; refine hk.mono ?_; rintro e w' ⟨rfl, rfl⟩; clear hk) | (go_at_call 38; refine hexpr.mono ?_; rintro e w1 (⟨rfl, h1⟩ | ⟨rfl, h1⟩)))
  · obtain ⟨g1, g2, g3, g4⟩ := hl _ h1
    have hp := hput _ h1
    clear hl hput hexpr
    go_region
    all_goals
      go_wp2_with (go_at_call 19; refine hp.mono ?_; rintro e w2 (⟨rfl, h2⟩ | ⟨rfl, h2⟩))
      all_goals first
        | (go_end0; exact .inl ⟨rfl, by assumption⟩)
        | exact ⟨rfl, .inr ⟨rfl, by assumption⟩⟩
  · exact ⟨rfl, .inr ⟨rfl, by assumption⟩⟩
set_option maxRecDepth 100000 in
set_option maxHeartbeats 800000 in
/-- a new name -/
theorem stmt_set_new (m : Nat) (hm : m < 64) (hn : NodeP R w nb no 9 t x (.slice (some ⟨kb, ko, none⟩) 1 cap) ks a)
    (hexpr : Does 38 #[pt b 0, pt kb ko] w S1 T) 
    (hl : ∀ w1, S1 w1 → w1.cell? ⟨b, 1, none⟩ = some (.map (some mb)) ∧ w1.cell? ⟨nb, no + 1, none⟩ = some (.string t) ∧ (Instr.lookup 49 (.map (some mb)) (.string t) true).run Try.prog w1 = .ok (.tuple #[.int .i64 0, .bool false]) w1 ∧ (Instr.lookup 49 (.map (some mb)) (.string t) true).run Try.prog w1.drew = .ok (.tuple #[.int .i64 0, .bool false]) w1.drew ∧ ∃ D : DataW Unit, Maps.size D = m ∧ w1.drew.ownsMap Try.prog 9 RI mb m D)
    (hup : ∀ w1, S1 w1 → ∃ w2, (Instr.mapUpdate 49 (.map (some mb)) (.string t) (.int .i64 m)).run Try.prog w1.drew.drew = .ok () w2 ∧
      Does 19 #[pt b 0, .agg #[.int .i64 4, .int .i64 m, .float .f64 0, .string ⟨#[]⟩]] w2 S2 T) :
    Does 27 #[pt b 0, pt nb no] w S2 T := by
  obtain ⟨_, c0, c1, c2, c3, c4, _, _⟩ := hn
  have hk := kids_ok nb no (some ⟨kb, ko, none⟩) 1 cap w c3
  have hm1 : decide ((64 : Int) ≤ (m : Int)) = false := by simp; omega
  go_enter Try.func27, Try.ntmps27
  go_wp2_with (first | (go_at_call 39; refine hk.mono ?_; rintro e w' ⟨rfl, rfl⟩; clear hk) | (go_at_call 38; refine hexpr.mono ?_; rintro e w1 (⟨rfl, h1⟩ | ⟨rfl, h1⟩)))
  · obtain ⟨g1, g2, g3, g4, D, hD, g5⟩ := hl _ h1
    obtain ⟨w2, hu2, hp⟩ := hup _ h1
    clear hl hup hexpr
    go_region
    all_goals
      go_wp2_with (first | (at_len; refine wpList_len_own _ rfl _ 49 rfl 9 3 Try.underlying49 RI mb _ D rfl g5 ?_; rw [hD]) | (go_at_call 26; refine (fail_no _).mono ?_; rintro e w' ⟨rfl, rfl⟩))
      go_region
      all_goals
        go_wp2_with (go_at_call 19; refine hp.mono ?_; rintro e w3 (⟨rfl, h2⟩ | ⟨rfl, h2⟩))
        all_goals first
          | (go_end0; exact .inl ⟨rfl, by assumption⟩)
          | exact ⟨rfl, .inr ⟨rfl, by assumption⟩⟩
  · exact ⟨rfl, .inr ⟨rfl, by assumption⟩⟩
set_option maxRecDepth 100000 in
set_option maxHeartbeats 800000 in
/-- one name too many -/
theorem stmt_set_many (m : Nat) (hm : 64 ≤ m) (hn : NodeP R w nb no 9 t x (.slice (some ⟨kb, ko, none⟩) 1 cap) ks a)
    (hexpr : Does 38 #[pt b 0, pt kb ko] w S1 T) 
    (hl : ∀ w1, S1 w1 → w1.cell? ⟨b, 1, none⟩ = some (.map (some mb)) ∧ w1.cell? ⟨nb, no + 1, none⟩ = some (.string t) ∧ (Instr.lookup 49 (.map (some mb)) (.string t) true).run Try.prog w1 = .ok (.tuple #[.int .i64 0, .bool false]) w1 ∧ (Instr.lookup 49 (.map (some mb)) (.string t) true).run Try.prog w1.drew = .ok (.tuple #[.int .i64 0, .bool false]) w1.drew ∧ ∃ D : DataW Unit, Maps.size D = m ∧ w1.drew.ownsMap Try.prog 9 RI mb m D)
    (hT : ∀ w1, S1 w1 → T w1.drew) :
    Does 27 #[pt b 0, pt nb no] w S2 T := by
  obtain ⟨_, c0, c1, c2, c3, c4, _, _⟩ := hn
  have hk := kids_ok nb no (some ⟨kb, ko, none⟩) 1 cap w c3
  have hm1 : decide ((64 : Int) ≤ (m : Int)) = true := by simp; omega
  go_enter Try.func27, Try.ntmps27
  go_wp2_with (first | (go_at_call 39; refine hk.mono ?_; rintro e w' ⟨rfl, rfl⟩; clear hk) | (go_at_call 38; refine hexpr.mono ?_; rintro e w1 (⟨rfl, h1⟩ | ⟨rfl, h1⟩)))
  · obtain ⟨g1, g2, g3, g4, D, hD, g5⟩ := hl _ h1
    have h2 := hT _ h1
    clear hl hT hexpr
    go_region
    all_goals
      go_wp2_with (first | (at_len; refine wpList_len_own _ rfl _ 49 rfl 9 3 Try.underlying49 RI mb _ D rfl g5 ?_; rw [hD]) | (go_at_call 26; refine (fail_yes _).mono ?_; rintro e w' ⟨rfl, rfl⟩))
      exact ⟨rfl, .inr ⟨rfl, by assumption⟩⟩
  · exact ⟨rfl, .inr ⟨rfl, by assumption⟩⟩
set_option maxRecDepth 100000 in
set_option maxHeartbeats 800000 in
/-- a kind that is none of a statement's -/
theorem stmt_kind_no (k : Int) (h9 : (k == 9) = false) (h10 : (k == 10) = false) (h11 : (k == 11) = false) (h12 : (k == 12) = false) (h13 : (k == 13) = false) (S : Value) (hn : NodeP R w nb no k t x S ks a) (hT : T w) :
    Does 27 #[pt b 0, pt nb no] w S2 T := by
  obtain ⟨_, c0, c1, c2, c3, c4, _, _⟩ := hn
  go_enter Try.func27, Try.ntmps27
  go_wp2_with (go_at_call 26; refine (fail_yes _).mono ?_; rintro e w' ⟨rfl, rfl⟩)
  exact ⟨rfl, .inr ⟨rfl, hT⟩⟩
set_option maxRecDepth 100000 in
set_option maxHeartbeats 1600000 in
/-- a statement with another number of kids -/
theorem stmt_many (k : Int) (many : Nat) (hk : (k = 9 ∧ many = 1) ∨ (k = 10 ∧ many = 3) ∨ (k = 11 ∧ many = 2) ∨ (k = 12 ∧ many = 1) ∨ (k = 13 ∧ many = 1)) (hl : ks.length ≤ maxLen) (h0 : ks.length ≠ many) (ao : Option Addr)
    (ao2 : Option Addr) (n c : Nat) (hb : w.cell? ⟨b, 0, none⟩ = some (.slice ao2 n c)) (hn : NodeP R w nb no k t x (.slice ao ks.length cap) ks a) (hT : T w) :
    Does 27 #[pt b 0, pt nb no] w S2 T := by
  obtain ⟨_, c0, c1, c2, c3, c4, _, _⟩ := hn
  have hkn := kids_no nb no ao ks.length cap many w hl (by omega) h0 c3
  clear hl h0
  rcases hk with ⟨rfl, rfl⟩ | ⟨rfl, rfl⟩ | ⟨rfl, rfl⟩ | ⟨rfl, rfl⟩ | ⟨rfl, rfl⟩
  all_goals
    go_enter Try.func27, Try.ntmps27
    go_wp2_with (go_at_call 39; refine hkn.mono ?_; rintro e w' ⟨rfl, rfl⟩)
    exact ⟨rfl, .inr ⟨rfl, hT⟩⟩
end
end Go.Proofs.Ytfkgfibmhhlemaa
namespace Go.Proofs.Ytfkgfibmhhlemaa
open Go.RowKit Go.Maps Go.WideMaps
section
variable (T : World → Prop) (S : Nat → World → Prop) (b : Nat) (w : World) (R : Nat → Prop) (nb no kb ko : Nat) (t : ByteArray) (x : Nat) (cap : Nat) (ks : List Nd) (a : Int)
set_option maxRecDepth 100000 in
set_option maxHeartbeats 800000 in
/-- a block -/
theorem block_walk (hn : NodeP R w nb no 8 t x (.slice (some ⟨kb, ko, none⟩) ks.length cap) ks a) (hl : ks.length ≤ cap) (hcap : cap ≤ 9223372036854775807) (h0 : S 0 w)
    (hc : ∀ k w1, S k w1 → w1.cell? ⟨nb, no + 3, none⟩ = some (.slice (some ⟨kb, ko, none⟩) ks.length cap))
    (hst : ∀ k w1, k < ks.length → S k w1 → Does 27 #[pt b 0, pt kb (ko + k * 5)] w1 (S (k + 1)) T) :
    Does 18 #[pt b 0, pt nb no] w (S ks.length) T := by
  obtain ⟨_, c0, c1, c2, c3, c4, _, _⟩ := hn
  go_enter Try.func18, Try.ntmps18
  go_wp2_with (go_at_call 26; refine (fail_no _).mono ?_; rintro e w' ⟨rfl, rfl⟩)
  go_loopw [16] (fun i wr => ∃ (k : Nat), k ≤ ks.length ∧ i = .int .i64 k ∧ S k wr) (fun i _ => ks.length - (intOf i).toNat)
  case atStart => exact ⟨0, Nat.zero_le _, rfl, h0⟩
  case round =>
    obtain ⟨k, hkl, rfl, hS⟩ := hrel
    have g3 := hc _ _ hS
    by_cases hlt : k < ks.length
    · have hs := hst k _ hlt hS
      clear hc hst
      go_wp2_with (go_at_call 27; refine hs.mono ?_; rintro e w2 (⟨rfl, h2⟩ | ⟨rfl, h2⟩))
      · go_roundw
        case rel => exact ⟨k + 1, hlt, by go_num, h2⟩
        case measure => simp [intOf]; omega
      · exact ⟨rfl, .inr ⟨rfl, h2⟩⟩
    · obtain rfl : k = ks.length := by omega
      go_wp2_with fail
      go_end0
      exact .inl ⟨rfl, hS⟩
set_option maxRecDepth 100000 in
set_option maxHeartbeats 800000 in
/-- an empty block -/
theorem block_nil {q : Option Addr} {cq : Nat} (Q : World → Prop) (hn : NodeP R w nb no 8 t x (.slice q 0 cq) ks a) (h0 : Q w) : Does 18 #[pt b 0, pt nb no] w Q T := by
  obtain ⟨_, c0, c1, c2, c3, c4, _, _⟩ := hn
  go_enter Try.func18, Try.ntmps18
  go_wp2_with (go_at_call 26; refine (fail_no _).mono ?_; rintro e w' ⟨rfl, rfl⟩)
  go_loopw [16] (fun i wr => i = .int .i64 0 ∧ Q wr ∧ wr.cell? ⟨nb, no + 3, none⟩ = some (.slice q 0 cq)) (fun _ _ => 0)
  case atStart => exact ⟨rfl, h0, c3⟩
  case round =>
    obtain ⟨rfl, hq, g3⟩ := hrel
    go_wp2_with fail
    go_end0
    exact .inl ⟨rfl, hq⟩
set_option maxRecDepth 100000 in
set_option maxHeartbeats 800000 in
/-- what is no block -/
theorem block_kind_no (Q : World → Prop) (k : Int) (hk : (k != 8) = true) (V : Value) (hn : NodeP R w nb no k t x V ks a) (hT : T w) : Does 18 #[pt b 0, pt nb no] w Q T := by
  obtain ⟨_, c0, c1, c2, c3, c4, _, _⟩ := hn
  go_enter Try.func18, Try.ntmps18
  go_wp2_with (go_at_call 26; refine (fail_yes _).mono ?_; rintro e w' ⟨rfl, rfl⟩)
  exact ⟨rfl, .inr ⟨rfl, hT⟩⟩
end
end Go.Proofs.Ytfkgfibmhhlemaa
namespace Go.Proofs.Ytfkgfibmhhlemaa
open Go.RowKit Go.Maps Go.WideMaps
/-- what the compiler may turn -/
abbrev May (b mb : Nat) (v : Value) : Nat → Prop := fun k => k = b ∨ k = mb ∨ v.ownBlock = some k
/-- a piece of code laid, names set -/
structure Steps (R : Nat → Prop) (sl' : List (List UInt8)) (w : World) (B b mb : Nat) (v : Value) (n : Nat) (xs new : List Value) (v' : Value) (w' : World) : Prop where
  st : Cst R sl' w' B b mb v' (n + cnt new) (xs ++ new)
  one : ∀ u ∈ new, u.oneCell' = true
  len : new.length = cnt new * 4
  kept : Kp (May b mb v) w w'
  fresh : ∀ k, v'.ownBlock = some k → v.ownBlock = some k ∨ w.heap.size ≤ k
/-- a jump whose place is told later -/
structure Jump (w : World) (b mb e1 a1 j : Nat) (v : Value) : Prop where
  e : w.cell? ⟨e1, 0, none⟩ = some (pt b 0)
  a : w.cell? ⟨a1, 0, none⟩ = some (.int .i64 j)
  eb : e1 ≠ b
  em : e1 ≠ mb
  ev : v.ownBlock ≠ some e1
  ab : a1 ≠ b
  am : a1 ≠ mb
  av : v.ownBlock ≠ some a1
section
variable {R : Nat → Prop} {sl sl1 sl2 : List (List UInt8)} {w w1 w2 : World} {B b mb n : Nat} {v v1 v2 : Value} {xs new new2 : List Value}
theorem Kp.may {m : Nat} (_hC : Cst R sl w B b mb v n xs) (h : Lays w B b v n xs new m v1 w1) : Kp (May b mb v) w w1 :=
  ⟨h.kept.os, h.kept.tape, h.kept.output, h.kept.size, fun k hk hS => h.kept.block k hk fun e => hS (e.elim .inl fun e => .inr (.inr e))⟩
theorem Steps.of_lays (hC : Cst R sl w B b mb v n xs) (h : Lays w B b v n xs new (cnt new) v1 w1) (one : ∀ u ∈ new, u.oneCell' = true) : Steps R sl w B b mb v n xs new v1 w1 :=
  ⟨hC.lays h, one, h.len hC.em, Kp.may hC h, h.fresh⟩
theorem Steps.nil (hC : Cst R sl w B b mb v n xs) : Steps R sl w B b mb v n xs [] v w :=
  ⟨by simpa [cnt] using hC, by simp, rfl, kp_refl _ _, fun _ h => .inl h⟩
theorem Kp.trans3 (h1 : Kp (May b mb v) w w1) (hf : ∀ k, v1.ownBlock = some k → v.ownBlock = some k ∨ w.heap.size ≤ k) (h2 : Kp (May b mb v1) w1 w2) : Kp (May b mb v) w w2 := by
  refine ⟨h2.os.trans h1.os, h2.tape.trans h1.tape, h2.output.trans h1.output, Nat.le_trans h1.size h2.size, fun k hk hS => (h2.block k (Nat.lt_of_lt_of_le hk h1.size) fun h => ?_).trans (h1.block k hk hS)⟩
  rcases h with h | h | h
  · exact hS (.inl h)
  · exact hS (.inr (.inl h))
  · rcases hf k h with h | h
    · exact hS (.inr (.inr h))
    · omega
theorem Steps.trans (h1 : Steps R sl1 w B b mb v n xs new v1 w1) (h2 : Steps R sl2 w1 B b mb v1 (n + cnt new) (xs ++ new) new2 v2 w2) : Steps R sl2 w B b mb v n xs (new ++ new2) v2 w2 := by
  have hc : cnt (new ++ new2) = cnt new + cnt new2 := cnt_add h1.len
  refine ⟨?_, ?_, by rw [hc, List.length_append, h1.len, h2.len, Nat.add_mul], h1.kept.trans3 h1.fresh h2.kept, fun k hk => ?_⟩
  · have := h2.st
    rwa [hc, ← Nat.add_assoc, ← List.append_assoc]
  · intro u hu
    rcases List.mem_append.1 hu with h | h
    · exact h1.one u h
    · exact h2.one u h
  · rcases h2.fresh k hk with h | h
    · exact h1.fresh k h
    · exact .inr (Nat.le_trans h1.kept.size h)
theorem Steps.drew (h : Steps R sl1 w B b mb v n xs new v1 w1) : Steps R sl1 w B b mb v n xs new v1 w1.drew :=
  ⟨⟨⟨h.st.em.cell, h.st.em.fz, h.st.em.own, h.st.em.ne⟩, h.st.rB, h.st.bb, h.st.bm, h.st.ne, h.st.own, h.st.cell, h.st.map⟩, h.one, h.len, ⟨h.kept.os, h.kept.tape, h.kept.output, h.kept.size, h.kept.block⟩, h.fresh⟩
theorem Steps.ones (h : Steps R sl1 w B b mb v n xs new v1 w1) (hx : ∀ u ∈ xs, u.oneCell' = true) : ∀ u ∈ xs ++ new, u.oneCell' = true := fun u hu => (List.mem_append.1 hu).elim (hx u) (h.one u)
theorem Steps.rblock (hC : Cst R sl w B b mb v n xs) (h : Steps R sl1 w B b mb v n xs new v1 w1) : ∀ k, R k → w1.heap[k]? = w.heap[k]? := fun k hr => by
  have hB := hC.rB k hr
  refine h.kept.block k (Nat.lt_of_lt_of_le hB hC.bs) fun e => ?_
  rcases e with e | e | e
  · have := hC.bb; omega
  · have := hC.bm; omega
  · have := (hC.em.own.lt k e).1; omega
theorem Jump.steps {e1 a1 j : Nat} (hJ : Jump w b mb e1 a1 j v) (h : Steps R sl1 w B b mb v n xs new v1 w1) : Jump w1 b mb e1 a1 j v1 := by
  have le := World.block_lt_of_cell? w _ hJ.e
  have la := World.block_lt_of_cell? w _ hJ.a
  have he := h.kept.block e1 le fun e => by rcases e with e | e | e; exact hJ.eb e; exact hJ.em e; exact hJ.ev e
  have ha := h.kept.block a1 la fun e => by rcases e with e | e | e; exact hJ.ab e; exact hJ.am e; exact hJ.av e
  refine ⟨(World.cell?_of_block he).trans hJ.e, (World.cell?_of_block ha).trans hJ.a, hJ.eb, hJ.em, fun e => ?_, hJ.ab, hJ.am, fun e => ?_⟩
  · rcases h.fresh _ e with h | h
    · exact hJ.ev h
    · exact absurd le (Nat.not_lt.2 h)
  · rcases h.fresh _ e with h | h
    · exact hJ.av h
    · exact absurd la (Nat.not_lt.2 h)
theorem one_ins (op arg : Int) (num : Nat) (tx : ByteArray) : ∀ u ∈ ins op arg (.float .f64 num) tx, u.oneCell' = true := by
  intro u hu; simp at hu; rcases hu with rfl | rfl | rfl | rfl <;> rfl
/-- an instruction laid -/
theorem put_one (hC : Cst R sl w B b mb v n xs) (hs : n + 1 ≤ 3518437208883) (op arg : Int) (T : World → Prop) :
    Does 19 #[pt b 0, .agg #[.int .i64 op, .int .i64 arg, f0, .string noText]] w (fun w' => ∃ v', Steps R sl w B b mb v n xs (ins op arg f0 noText) v' w') T :=
  (put_any B b v n xs op arg f0 noText w hC.bs hC.em rfl (room1 (m := 0) hs) (room2 (m := 0) hs)).mono fun e w' h => .inl ⟨h.1, by
    obtain ⟨v', hl⟩ := Lays.of_put h
    exact ⟨v', Steps.of_lays hC (by rw [cnt_ins]; exact hl) (one_ins _ _ _ _)⟩⟩
/-- a jump laid open -/
theorem open_one (hC : Cst R sl w B b mb v n xs) (hs : n + 1 ≤ 3518437208883) (op : Int) (T : World → Prop) :
    Opens w b op (fun e1 a1 w' => ∃ v', Steps R sl w B b mb v n xs (ins op 0 f0 noText) v' w' ∧ Jump w' b mb e1 a1 n v') T :=
  (open_any B b v n xs op w hC.bs hC.em (room1 (m := 0) hs) (room2 (m := 0) hs)).mono fun e w' h => by
    obtain ⟨e1, a1, v', rfl, h1, h2, h3, h4, h5, h6, h7, h8, hl⟩ := h
    have hb := hC.em.lt
    have hm := hC.mlt
    exact .inl ⟨e1, a1, rfl, v', Steps.of_lays hC (by rw [cnt_ins]; exact hl) (one_ins _ _ _ _), h7, h8, by omega, by omega, h5, by omega, by omega, h6⟩
theorem set_ins (a c : List Value) (op z z' : Int) (num : Value) (tx : ByteArray) {j : Nat} (hj : a.length = j) : (a ++ ins op z num tx ++ c).set (j + 1) (.int .i64 z') = a ++ ins op z' num tx ++ c := by
  subst hj
  rw [List.append_assoc, List.set_append_right _ _ (by omega)]
  simp
/-- a jump is told its place -/
theorem shut_one {ce p : List Value} {op z : Int} {e1 a1 j : Nat} (hx : ∀ u ∈ xs, u.oneCell' = true) (hxl : xs.length = n * 4) (h : Steps R sl1 w B b mb v n xs (ce ++ ins op z f0 noText ++ p) v1 w1) (hce : ce.length = cnt ce * 4) (hJ : Jump w1 b mb e1 a1 j v1) (hj : j = n + cnt ce) (hs : n + cnt (ce ++ ins op z f0 noText ++ p) + 1 ≤ 3518437208883) (T : World → Prop) :
    Does 51 #[pt e1 0, pt a1 0] w1 (fun w2 => Steps R sl1 w B b mb v n xs (ce ++ ins op (n + cnt (ce ++ ins op z f0 noText ++ p) : Nat) f0 noText ++ p) v1 w2 ∧ ∀ e2 a2 j2, Jump w1 b mb e2 a2 j2 v1 → Jump w2 b mb e2 a2 j2 v1) T := by
  have hcn : cnt ce < cnt (ce ++ ins op z f0 noText ++ p) := by
    have := cnt_add (b := ins op z f0 noText ++ p) hce
    rw [List.append_assoc, this]
    have : 1 ≤ cnt (ins op z f0 noText ++ p) := by unfold cnt; simp; omega
    omega
  refine (close_any B b e1 a1 j _ v1 _ w1 h.st.em (by omega) (by omega) (h.ones hx) hJ.e hJ.a).mono fun e w2 hp => .inl ⟨hp.1, ?_, ?_⟩
  · have hsh := hp.2
    have hset : (xs ++ (ce ++ ins op z f0 noText ++ p)).set (j * 4 + 1) (.int .i64 (n + cnt (ce ++ ins op z f0 noText ++ p) : Nat)) = xs ++ (ce ++ ins op (n + cnt (ce ++ ins op z f0 noText ++ p) : Nat) f0 noText ++ p) := by
      rw [show xs ++ (ce ++ ins op z f0 noText ++ p) = (xs ++ ce) ++ ins op z f0 noText ++ p by simp, show xs ++ (ce ++ ins op (n + cnt (ce ++ ins op z f0 noText ++ p) : Nat) f0 noText ++ p) = (xs ++ ce) ++ ins op (n + cnt (ce ++ ins op z f0 noText ++ p) : Nat) f0 noText ++ p by simp]
      exact set_ins _ _ _ _ _ _ _ (by rw [List.length_append, hxl, hce, hj, Nat.add_mul])
    have hcnt : cnt (ce ++ ins op (n + cnt (ce ++ ins op z f0 noText ++ p) : Nat) f0 noText ++ p) = cnt (ce ++ ins op z f0 noText ++ p) := by unfold cnt; simp
    have hmb : v1.ownBlock ≠ some mb := h.st.own
    refine ⟨?_, ?_, ?_, ?_, h.fresh⟩
    · rw [hcnt]
      refine ⟨by rw [← hset]; exact hsh.em, h.st.rB, h.st.bb, h.st.bm, h.st.ne, h.st.own, ?_, ?_⟩
      · exact (World.cell?_of_block (hsh.other b h.st.em.ne)).trans h.st.cell
      · obtain ⟨D, ⟨es, clock, hb, F, hss, hD⟩, h2⟩ := h.st.map
        exact ⟨D, ⟨es, clock, (hsh.other mb hmb).trans hb, F, hss, hD⟩, h2⟩
    · intro u hu
      simp only [List.mem_append] at hu
      rcases hu with (hu | hu) | hu
      · exact h.one u (by simp [hu])
      · exact one_ins _ _ _ _ u hu
      · exact h.one u (by simp [hu])
    · rw [hcnt, ← h.len]; simp
    · refine ⟨hsh.os.trans h.kept.os, hsh.tape.trans h.kept.tape, hsh.output.trans h.kept.output, by rw [hsh.size]; exact h.kept.size, fun k hk hS => ?_⟩
      refine (hsh.other k fun e => ?_).trans (h.kept.block k hk hS)
      rcases h.fresh k e with e | e
      · exact hS (.inr (.inr e))
      · omega
  · intro e2 a2 j2 hJ2
    have hsh := hp.2
    exact ⟨(World.cell?_of_block (hsh.other e2 hJ2.ev)).trans hJ2.e, (World.cell?_of_block (hsh.other a2 hJ2.av)).trans hJ2.a, hJ2.eb, hJ2.em, hJ2.ev, hJ2.ab, hJ2.am, hJ2.av⟩
end
end Go.Proofs.Ytfkgfibmhhlemaa
namespace Go.Proofs.Ytfkgfibmhhlemaa
open Go.RowKit Go.Maps Go.WideMaps
/-- whole instructions, so many at most, of plain cells -/
def Good (m : Nat) (l : List Value) : Prop := l.length % 4 = 0 ∧ l.length ≤ 4 * m ∧ ∀ u ∈ l, u.oneCell' = true
theorem Good.append {m m' : Nat} {a b : List Value} (h : Good m a) (h' : Good m' b) : Good (m + m') (a ++ b) := by
  refine ⟨?_, ?_, fun u hu => (List.mem_append.1 hu).elim (h.2.2 u) (h'.2.2 u)⟩
  · have := h.1; have := h'.1; rw [List.length_append]; omega
  · have := h.2.1; have := h'.2.1; rw [List.length_append]; omega
theorem Good.mono {m m' : Nat} {a : List Value} (h : Good m a) (hm : m ≤ m') : Good m' a := ⟨h.1, by have := h.2.1; omega, h.2.2⟩
theorem good_nil : Good 0 [] := ⟨rfl, by simp, by simp⟩
theorem good_ins (op arg : Int) (num : Nat) (tx : ByteArray) : Good 1 (ins op arg (.float .f64 num) tx) := ⟨by simp, by simp, one_ins op arg num tx⟩
theorem Good.len {m : Nat} {a : List Value} (h : Good m a) : a.length = cnt a * 4 := by have := h.1; unfold cnt; omega
theorem Good.cnt {m : Nat} {a : List Value} (h : Good m a) : cnt a ≤ m := cnt_le h.2.1
mutual
theorem exprC_good (sl : List (List UInt8)) : ∀ (nd : Nd) (new : List Value), exprC sl nd = some new → Good nd.wt new
  | .mk k t x ks a, new, h => by
    rw [exprC] at h
    rw [Nd.wt]
    have ihL := exprL_good sl ks
    split at h
    · split at h
      · cases h; exact (good_ins _ _ _ _).mono (by omega)
      · cases h
    split at h
    · split at h
      · cases h; exact (good_ins _ _ _ _).mono (by omega)
      · cases h
    split at h
    · split at h
      · cases hs : slotOf sl t.toList <;> rw [hs] at h <;> simp at h
        rw [← h]; exact (good_ins _ _ _ _).mono (by omega)
      · cases h
    split at h
    · split at h
      · split at h
        · cases hL : exprL sl ks with
          | none => rw [hL] at h; cases h
          | some c => rw [hL] at h; cases h; exact ((ihL c hL).append (good_ins _ _ _ _)).mono (by omega)
        · cases h
      · cases h
    split at h
    · split at h
      · split at h
        · cases hL : exprL sl ks with
          | none => rw [hL] at h; cases h
          | some c => rw [hL] at h; cases h; exact ((ihL c hL).append (good_ins _ _ _ _)).mono (by omega)
        · cases h
      · cases h
    split at h
    · split at h
      · cases hL : exprL sl ks with
        | none => rw [hL] at h; cases h
        | some c => rw [hL] at h; cases h; exact ((ihL c hL).append (good_ins _ _ _ _)).mono (by omega)
      · cases h
    · cases h
theorem exprL_good (sl : List (List UInt8)) : ∀ (ks : List Nd) (new : List Value), exprL sl ks = some new → Good (wtL ks) new
  | [], new, h => by rw [exprL] at h; cases h; exact good_nil
  | n :: r, new, h => by
    rw [exprL] at h
    rw [wtL]
    have h1 := exprC_good sl n
    have h2 := exprL_good sl r
    cases ha : exprC sl n with
    | none => rw [ha] at h; cases h
    | some a => cases hb : exprL sl r with
      | none => rw [ha, hb] at h; cases h
      | some b => rw [ha, hb] at h; cases h; exact (h1 a ha).append (h2 b hb)
end
mutual
theorem stmtC_good : ∀ (nd : Nd) (n : Nat) (sl : List (List UInt8)) (o : Out), stmtC n sl nd = some o → Good (2 * nd.wt) o.1
  | .mk k t x ks a, n, sl, o, h => by
    rw [stmtC.eq_def] at h
    simp only at h
    rw [Nd.wt]
    split at h
    · split at h
      · rename_i a1
        cases he : exprC sl a1 with
        | none => rw [he] at h; cases h
        | some e =>
          rw [he] at h
          cases hq : setC sl t.toList with
          | none => rw [hq] at h; cases h
          | some q => rw [hq] at h; cases h; exact ((exprC_good sl a1 e he).append (good_ins _ _ _ _)).mono (by simp [wtL]; omega)
      · cases h
    split at h
    · split at h
      · rename_i a1 b1 c1
        have hb := blockC_good b1
        have hc := blockC_good c1
        cases he : exprC sl a1 with
        | none => rw [he] at h; cases h
        | some e =>
          rw [he] at h
          simp only [Option.bind_some] at h
          cases hp : blockC (n + cnt e + 1) sl b1 with
          | none => rw [hp] at h; cases h
          | some p =>
            rw [hp] at h
            simp only [Option.bind_some] at h
            split at h
            · split at h
              · cases h; exact (((exprC_good sl a1 e he).append (good_ins _ _ _ _)).append (hb _ _ p hp)).mono (by simp [wtL]; omega)
              · cases h
            · cases hq : blockC (n + cnt e + 1 + cnt p.1 + 1) p.2 c1 with
              | none => rw [hq] at h; cases h
              | some q => rw [hq] at h; cases h; exact (((((exprC_good sl a1 e he).append (good_ins _ _ _ _)).append (hb _ _ p hp)).append (good_ins _ _ _ _)).append (hc _ _ q hq)).mono (by simp [wtL]; omega)
      · cases h
    split at h
    · split at h
      · rename_i a1 b1
        have hb := blockC_good b1
        cases he : exprC sl a1 with
        | none => rw [he] at h; cases h
        | some e =>
          rw [he] at h
          simp only [Option.bind_some] at h
          cases hp : blockC (n + cnt e + 1) sl b1 with
          | none => rw [hp] at h; cases h
          | some p => rw [hp] at h; cases h; exact ((((exprC_good sl a1 e he).append (good_ins _ _ _ _)).append (hb _ _ p hp)).append (good_ins _ _ _ _)).mono (by simp [wtL]; omega)
      · cases h
    split at h
    · split at h
      · rename_i a1
        cases he : exprC sl a1 with
        | none => rw [he] at h; cases h
        | some e => rw [he] at h; cases h; exact ((exprC_good sl a1 e he).append (good_ins _ _ _ _)).mono (by simp [wtL]; omega)
      · cases h
    split at h
    · split at h
      · rename_i a1
        cases he : exprC sl a1 with
        | none => rw [he] at h; cases h
        | some e => rw [he] at h; cases h; exact ((exprC_good sl a1 e he).append (good_ins _ _ _ _)).mono (by simp [wtL]; omega)
      · cases h
    · cases h
theorem blockC_good : ∀ (nd : Nd) (n : Nat) (sl : List (List UInt8)) (o : Out), blockC n sl nd = some o → Good (2 * nd.wt) o.1
  | .mk k t x ks a, n, sl, o, h => by
    rw [blockC] at h
    rw [Nd.wt]
    have ih := stmtL_good ks
    split at h
    · exact (ih n sl o h).mono (by omega)
    · cases h
theorem stmtL_good : ∀ (ks : List Nd) (n : Nat) (sl : List (List UInt8)) (o : Out), stmtL n sl ks = some o → Good (2 * wtL ks) o.1
  | [], n, sl, o, h => by rw [stmtL] at h; cases h; exact good_nil
  | a :: r, n, sl, o, h => by
    rw [stmtL] at h
    rw [wtL]
    have h1 := stmtC_good a
    have h2 := stmtL_good r
    cases hp : stmtC n sl a with
    | none => rw [hp] at h; cases h
    | some p =>
      rw [hp] at h
      simp only [Option.bind_some] at h
      cases hq : stmtL (n + cnt p.1) p.2 r with
      | none => rw [hq] at h; cases h
      | some q => rw [hq] at h; cases h; exact ((h1 _ _ p hp).append (h2 _ _ q hq)).mono (by omega)
end
theorem stmtL_take : ∀ (ks : List Nd) (n : Nat) (sl : List (List UInt8)) (k : Nat) (h : k < ks.length), stmtL n sl (ks.take (k + 1)) = (stmtL n sl (ks.take k)).bind fun p => (stmtC (n + cnt p.1) p.2 ks[k]).map fun q => (p.1 ++ q.1, q.2)
  | x :: r, n, sl, 0, _ => by simp [stmtL, cnt]; cases stmtC n sl x <;> simp
  | x :: r, n, sl, k + 1, h => by
    simp only [List.take_succ_cons, stmtL, List.getElem_cons_succ]
    cases hx : stmtC n sl x with
    | none => rfl
    | some p =>
      simp only [Option.bind_some]
      rw [stmtL_take r (n + cnt p.1) p.2 k (by simpa using h)]
      cases hq : stmtL (n + cnt p.1) p.2 (r.take k) with
      | none => rfl
      | some q =>
        have hl := cnt_add (b := q.1) (stmtC_good x n sl p hx).len
        simp only [Option.bind_some, Option.map_some]
        rw [hl, Nat.add_assoc]
        cases stmtC (n + (cnt p.1 + cnt q.1)) q.2 (r[k]'(by simpa using h)) with
        | none => rfl
        | some z => simp
theorem stmtL_none (ks : List Nd) (n : Nat) (sl : List (List UInt8)) (k : Nat) (_h : k < ks.length) (hn : stmtL n sl (ks.take (k + 1)) = none) : stmtL n sl ks = none := by
  have : ∀ (a b : List Nd) (n : Nat) (sl : List (List UInt8)), stmtL n sl a = none → stmtL n sl (a ++ b) = none := by
    intro a
    induction a with
    | nil => intro b n sl h; simp [stmtL] at h
    | cons x r ih =>
      intro b n sl h
      simp only [List.cons_append, stmtL] at h ⊢
      cases hx : stmtC n sl x with
      | none => rfl
      | some p =>
        rw [hx] at h
        simp only [Option.bind_some] at h ⊢
        have h' : stmtL (n + cnt p.1) p.2 r = none := by cases hq : stmtL (n + cnt p.1) p.2 r with
          | none => rfl
          | some q => rw [hq] at h; cases h
        rw [ih b _ _ h']; rfl
  have := this _ (ks.drop (k + 1)) n sl hn
  rwa [List.take_append_drop] at this
end Go.Proofs.Ytfkgfibmhhlemaa
namespace Go.Proofs.Ytfkgfibmhhlemaa
open Go.RowKit Go.Maps Go.WideMaps
def Laid (R : Nat → Prop) (o : Option Out) (w : World) (B b mb : Nat) (v : Value) (n : Nat) (xs : List Value) (w' : World) : Prop := ∃ new sl' v', o = some (new, sl') ∧ Steps R sl' w B b mb v n xs new v' w'
def Thrown (o : Option Out) (w : World) (b mb : Nat) (v : Value) (w' : World) : Prop := o = none ∧ Kp (May b mb v) w w'
theorem Does.mono {f : Nat} {args : Array Value} {w : World} {S S' T T' : World → Prop} (h : Does f args w S T) (hS : ∀ w', S w' → S' w') (hT : ∀ w', T w' → T' w') : Does f args w S' T' := Calls.mono h fun _ _ h => h.imp (fun h => ⟨h.1, hS _ h.2⟩) fun h => ⟨h.1, hT _ h.2⟩
theorem Opens.mono {w : World} {b : Nat} {op : Int} {S S' : Nat → Nat → World → Prop} {T T' : World → Prop} (h : Opens w b op S T) (hS : ∀ e a w', S e a w' → S' e a w') (hT : ∀ w', T w' → T' w') : Opens w b op S' T' :=
  Calls.mono h fun _ _ h => h.imp (fun ⟨e, a, h1, h2⟩ => ⟨e, a, h1, hS _ _ _ h2⟩) fun h => ⟨h.1, hT _ h.2⟩
/-- the statement's, the block's contract -/
def NodeOk (f : Nat) (code : Nat → List (List UInt8) → Nd → Option Out) (nd : Nd) : Prop := ∀ (R : Nat → Prop) (sl : List (List UInt8)) (w : World) (B b mb : Nat) (v : Value) (n : Nat) (xs : List Value) (nb no : Nat) (k : Int) (t : ByteArray) (x : Nat) (S : Value) (ks : List Nd) (a : Int), nd = .mk k t x ks a →
  Cst R sl w B b mb v n xs → (∀ u ∈ xs, u.oneCell' = true) → NodeP R w nb no k t x S ks a → n + 2 * nd.wt + 1 ≤ 3518437208883 →
  Does f #[pt b 0, pt nb no] w (Laid R (code n sl nd) w B b mb v n xs) (Thrown (code n sl nd) w b mb v)
section
variable {R : Nat → Prop} {sl sl1 sl2 : List (List UInt8)} {w w1 w2 : World} {B b mb n : Nat} {v v1 v2 : Value} {xs new new2 : List Value} {nb no kb ko ln cap : Nat} {k : Int} {t : ByteArray} {x : Nat} {S : Value} {ks : List Nd} {a : Int}
theorem NodeOk.at {f : Nat} {code : Nat → List (List UInt8) → Nd → Option Out} {nd : Nd} (h : NodeOk f code nd) (hC : Cst R sl w B b mb v n xs) (hx : ∀ u ∈ xs, u.oneCell' = true)
    (hn : NodeP R w nb no k t x (.slice (some ⟨kb, ko, none⟩) ln cap) ks a) (i : Nat) (hi : i < ks.length) (hnd : ks[i] = nd) (hs : n + 2 * nd.wt + 1 ≤ 3518437208883) :
    Does f #[pt b 0, pt kb (ko + i * 5)] w (Laid R (code n sl nd) w B b mb v n xs) (Thrown (code n sl nd) w b mb v) := by
  obtain ⟨k', t', x', S', ks', a', e, hp⟩ := hn.kid i hi
  exact h R sl w B b mb v n xs kb (ko + i * 5) k' t' x' S' ks' a' (hnd.symm.trans e) hC hx hp hs
/-- an expression, first -/
theorem expr_does (hC : Cst R sl w B b mb v n xs) (hn : NodeP R w nb no k t x (.slice (some ⟨kb, ko, none⟩) ln cap) ks a) {nd : Nd} {r : List Nd} (e : ks = nd :: r) (hs : n + nd.wt + 1 ≤ 3518437208883) :
    Does 38 #[pt b 0, pt kb ko] w (fun w1 => ∃ ce v1, exprC sl nd = some ce ∧ Steps R sl w B b mb v n xs ce v1 w1) (fun w1 => exprC sl nd = none ∧ Kp (May b mb v) w w1) := by
  subst e
  have h := (expr_any nd).at hC hn 0 (by simp) rfl hs
  rw [Nat.zero_mul, Nat.add_zero] at h
  refine h.mono fun e w1 hp => ?_
  unfold ExprPost at hp
  cases hc : exprC sl nd with
  | none => rw [hc] at hp; exact .inr ⟨hp.1, rfl, hp.2.os, hp.2.tape, hp.2.output, hp.2.size, fun k hk hS => hp.2.block k hk fun e => hS (e.elim .inl fun e => .inr (.inr e))⟩
  | some ce =>
    rw [hc] at hp
    obtain ⟨h1, v1, hl⟩ := hp
    exact .inl ⟨h1, ce, v1, rfl, Steps.of_lays hC hl (exprC_good sl nd ce hc).2.2⟩
/-- an instruction behind what is laid -/
theorem put_more (h : Steps R sl1 w B b mb v n xs new v1 w1) (hs : n + cnt new + 1 ≤ 3518437208883) (op arg : Int) (T : World → Prop) :
    Does 19 #[pt b 0, .agg #[.int .i64 op, .int .i64 arg, f0, .string noText]] w1 (fun w' => ∃ v', Steps R sl1 w B b mb v n xs (new ++ ins op arg f0 noText) v' w') T :=
  (put_one h.st hs op arg T).mono (fun _ ⟨v', h2⟩ => ⟨v', h.trans h2⟩) fun _ h => h
theorem stmtC_many (n : Nat) (sl : List (List UInt8)) (t : ByteArray) (x : Nat) (ks : List Nd) (a : Int) (k : Int) (many : Nat) (hk : (k = 9 ∧ many = 1) ∨ (k = 10 ∧ many = 3) ∨ (k = 11 ∧ many = 2) ∨ (k = 12 ∧ many = 1) ∨ (k = 13 ∧ many = 1)) (h : ks.length ≠ many) : stmtC n sl (.mk k t x ks a) = none := by
  rw [stmtC.eq_def]
  rcases hk with ⟨rfl, rfl⟩ | ⟨rfl, rfl⟩ | ⟨rfl, rfl⟩ | ⟨rfl, rfl⟩ | ⟨rfl, rfl⟩
  all_goals
    simp
    split
    · exact absurd rfl h
    · rfl
theorem stmt_12 (hC : Cst R sl w B b mb v n xs) (hn : NodeP R w nb no 12 t x S ks a) (hs : n + 2 * Nd.wt (.mk 12 t x ks a) + 1 ≤ 3518437208883) (sl0 : Option Addr) (cc : Nat) (hb : v = .slice sl0 n cc) :
    Does 27 #[pt b 0, pt nb no] w (Laid R (stmtC n sl (.mk 12 t x ks a)) w B b mb v n xs) (Thrown (stmtC n sl (.mk 12 t x ks a)) w b mb v) := by
  rw [Nd.wt] at hs
  by_cases h1 : ks.length = 1
  · obtain ⟨kb, ko, cap, rfl, _, _⟩ := hn.len.some (by omega)
    obtain ⟨kd, rfl⟩ : ∃ kd, ks = [kd] := by
      match ks, h1 with
      | [kd], _ => exact ⟨kd, rfl⟩
    rw [wtL, wtL] at hs
    rw [stmtC.eq_def]
    simp only [show ¬ (12 : Int) = 9 by decide, show ¬ (12 : Int) = 10 by decide, show ¬ (12 : Int) = 11 by decide, if_false, if_true]
    refine stmt_one _ (fun w1 => ∃ ce v1, exprC sl kd = some ce ∧ Steps R sl w B b mb v n xs ce v1 w1) _ b w R nb no kb ko t x cap _ a hn ((expr_does hC hn rfl (by omega)).mono (fun _ h => h) fun w1 h => ?_) fun w1 ⟨ce, v1, hc, hst⟩ => ?_
    · rw [h.1]; exact ⟨rfl, h.2⟩
    · have hg := (exprC_good sl kd ce hc).cnt
      refine (put_more hst (by omega) 18 0 _).mono (fun w2 ⟨v2, h2⟩ => ?_) fun _ h => h
      rw [hc]; exact ⟨_, _, v2, rfl, h2⟩
  · obtain ⟨ao, cap, rfl, hl⟩ := hn.len.slice
    rw [stmtC_many n sl t x ks a 12 1 (by decide) h1]
    exact stmt_many _ _ b w R nb no t x cap ks a 12 1 (by decide) hl h1 ao sl0 n cc (hb ▸ hC.em.cell) hn ⟨rfl, kp_refl _ _⟩
theorem stmt_13 (hC : Cst R sl w B b mb v n xs) (hn : NodeP R w nb no 13 t x S ks a) (hs : n + 2 * Nd.wt (.mk 13 t x ks a) + 1 ≤ 3518437208883) (sl0 : Option Addr) (cc : Nat) (hb : v = .slice sl0 n cc) :
    Does 27 #[pt b 0, pt nb no] w (Laid R (stmtC n sl (.mk 13 t x ks a)) w B b mb v n xs) (Thrown (stmtC n sl (.mk 13 t x ks a)) w b mb v) := by
  rw [Nd.wt] at hs
  by_cases h1 : ks.length = 1
  · obtain ⟨kb, ko, cap, rfl, _, _⟩ := hn.len.some (by omega)
    obtain ⟨kd, rfl⟩ : ∃ kd, ks = [kd] := by
      match ks, h1 with
      | [kd], _ => exact ⟨kd, rfl⟩
    rw [wtL, wtL] at hs
    rw [stmtC.eq_def]
    simp only [show ¬ (13 : Int) = 9 by decide, show ¬ (13 : Int) = 10 by decide, show ¬ (13 : Int) = 11 by decide, show ¬ (13 : Int) = 12 by decide, if_false, if_true]
    refine stmt_fail _ (fun w1 => ∃ ce v1, exprC sl kd = some ce ∧ Steps R sl w B b mb v n xs ce v1 w1) _ b w R nb no kb ko t x cap _ a hn ((expr_does hC hn rfl (by omega)).mono (fun _ h => h) fun w1 h => ?_) fun w1 ⟨ce, v1, hc, hst⟩ => ?_
    · rw [h.1]; exact ⟨rfl, h.2⟩
    · have hg := (exprC_good sl kd ce hc).cnt
      refine (put_more hst (by omega) 19 0 _).mono (fun w2 ⟨v2, h2⟩ => ?_) fun _ h => h
      rw [hc]; exact ⟨_, _, v2, rfl, h2⟩
  · obtain ⟨ao, cap, rfl, hl⟩ := hn.len.slice
    rw [stmtC_many n sl t x ks a 13 1 (by decide) h1]
    exact stmt_many _ _ b w R nb no t x cap ks a 13 1 (by decide) hl h1 ao sl0 n cc (hb ▸ hC.em.cell) hn ⟨rfl, kp_refl _ _⟩
end
end Go.Proofs.Ytfkgfibmhhlemaa
namespace Go.Proofs.Ytfkgfibmhhlemaa
open Go.RowKit Go.Maps Go.WideMaps
section
variable {R : Nat → Prop} {sl sl1 sl2 : List (List UInt8)} {w w1 w2 : World} {B b mb n : Nat} {v v1 v2 : Value} {xs new new2 : List Value} {nb no kb ko ln cap : Nat} {k : Int} {t : ByteArray} {x : Nat} {S : Value} {ks : List Nd} {a : Int}
/-- an open jump behind what is laid -/
theorem open_more (h : Steps R sl1 w B b mb v n xs new v1 w1) (hs : n + cnt new + 1 ≤ 3518437208883) (op : Int) (T : World → Prop) :
    Opens w1 b op (fun e1 a1 w' => ∃ v', Steps R sl1 w B b mb v n xs (new ++ ins op 0 f0 noText) v' w' ∧ Jump w' b mb e1 a1 (n + cnt new) v' ∧ ∀ e2 a2 j2, Jump w1 b mb e2 a2 j2 v1 → Jump w' b mb e2 a2 j2 v') T :=
  (open_one h.st hs op T).mono (fun _ _ _ ⟨v', h2, hJ⟩ => ⟨v', h.trans h2, hJ, fun _ _ _ h3 => h3.steps h2⟩) fun _ h => h
/-- a block behind what is laid -/
theorem block_more {nd : Nd} (hB : NodeOk 18 blockC nd) (h : Steps R sl1 w B b mb v n xs new v1 w1) (hC : Cst R sl w B b mb v n xs) (hx : ∀ u ∈ xs, u.oneCell' = true)
    (hn : NodeP R w nb no k t x (.slice (some ⟨kb, ko, none⟩) ln cap) ks a) (i : Nat) (hi : i < ks.length) (hnd : ks[i] = nd) (hs : n + cnt new + 2 * nd.wt + 1 ≤ 3518437208883) :
    Does 18 #[pt b 0, pt kb (ko + i * 5)] w1 (fun w2 => ∃ p sl2 v2, blockC (n + cnt new) sl1 nd = some (p, sl2) ∧ Steps R sl2 w B b mb v n xs (new ++ p) v2 w2 ∧ ∀ e2 a2 j2, Jump w1 b mb e2 a2 j2 v1 → Jump w2 b mb e2 a2 j2 v2)
      (fun w2 => blockC (n + cnt new) sl1 nd = none ∧ Kp (May b mb v) w w2) :=
  (hB.at h.st (h.ones hx) (hn.kept (h.rblock hC)) i hi hnd hs).mono (fun _ ⟨p, sl2, v2, h1, h2⟩ => ⟨p, sl2, v2, h1, h.trans h2, fun _ _ _ hJ => hJ.steps h2⟩) fun _ ⟨h1, h2⟩ => ⟨h1, h.kept.trans3 h.fresh h2⟩
theorem stmt_11 (ih : ∀ i (h : i < ks.length), NodeOk 18 blockC ks[i]) (hC : Cst R sl w B b mb v n xs) (hx : ∀ u ∈ xs, u.oneCell' = true) (hn : NodeP R w nb no 11 t x S ks a) (hs : n + 2 * Nd.wt (.mk 11 t x ks a) + 1 ≤ 3518437208883) (sl0 : Option Addr) (cc : Nat) (hb : v = .slice sl0 n cc) :
    Does 27 #[pt b 0, pt nb no] w (Laid R (stmtC n sl (.mk 11 t x ks a)) w B b mb v n xs) (Thrown (stmtC n sl (.mk 11 t x ks a)) w b mb v) := by
  rw [Nd.wt] at hs
  by_cases h1 : ks.length = 2
  · obtain ⟨kb, ko, cap, rfl, _, _⟩ := hn.len.some (by omega)
    obtain ⟨k1, k2, rfl⟩ : ∃ k1 k2, ks = [k1, k2] := by
      match ks, h1 with
      | [k1, k2], _ => exact ⟨k1, k2, rfl⟩
    rw [wtL, wtL, wtL] at hs
    rw [stmtC.eq_def]
    simp only [show ¬ (11 : Int) = 9 by decide, show ¬ (11 : Int) = 10 by decide, if_false, if_true]
    have hxl : xs.length = n * 4 := hC.em.own.1
    have w1p := wt_pos k1
    have hcc : w.cell? ⟨b, 0, none⟩ = some (.slice sl0 n cc) := hb ▸ hC.em.cell
    refine stmt_while _ (fun w1 => ∃ ce v1, exprC sl k1 = some ce ∧ Steps R sl w B b mb v n xs ce v1 w1)
      (fun e1 a1 w2 => ∃ ce v2, exprC sl k1 = some ce ∧ Steps R sl w B b mb v n xs (ce ++ ins 16 0 f0 noText) v2 w2 ∧ Jump w2 b mb e1 a1 (n + cnt ce) v2)
      (fun e1 a1 w3 => ∃ ce p sl2 v3, exprC sl k1 = some ce ∧ blockC (n + cnt ce + 1) sl k2 = some (p, sl2) ∧ Steps R sl2 w B b mb v n xs (ce ++ ins 16 0 f0 noText ++ p) v3 w3 ∧ Jump w3 b mb e1 a1 (n + cnt ce) v3)
      (fun e1 a1 w4 => ∃ ce p sl2 v4, exprC sl k1 = some ce ∧ blockC (n + cnt ce + 1) sl k2 = some (p, sl2) ∧ Steps R sl2 w B b mb v n xs (ce ++ ins 16 0 f0 noText ++ (p ++ ins 15 n f0 noText)) v4 w4 ∧ Jump w4 b mb e1 a1 (n + cnt ce) v4)
      _ b w R nb no kb ko t x cap _ a hn sl0 n cc hcc ((expr_does hC hn rfl (by omega)).mono (fun _ h => h) fun w1 h => ?_) (fun w1 ⟨ce, v1, hc, hst⟩ => ?_) (fun e1 a1 w2 ⟨ce, v2, hc, hst, hJ⟩ => ?_) (fun e1 a1 w2 ⟨ce, v2, hc, hst, hJ⟩ => ?_) (fun e1 a1 w3 ⟨ce, p, sl2, v3, hc, hp, hst, hJ⟩ => ?_) (fun e1 a1 w4 ⟨ce, p, sl2, v4, hc, hp, hst, hJ⟩ => ?_)
    · rw [h.1]; exact ⟨rfl, h.2⟩
    · have hg := (exprC_good sl k1 ce hc).cnt
      exact (open_more hst (by omega) 16 _).mono (fun _ _ _ ⟨v', h2, hJ, _⟩ => ⟨ce, v', hc, h2, hJ⟩) fun _ h => h
    · exact (hn.kept (hst.rblock hC)).c3
    · have hg := exprC_good sl k1 ce hc
      have hgc := hg.cnt
      have hc1 : cnt (ce ++ ins 16 0 f0 noText) = cnt ce + 1 := by rw [cnt_add hg.len, cnt_ins]
      have hd := block_more (ih 1 (by simp)) hst hC hx hn 1 (by simp) rfl (by rw [hc1]; simp only [List.getElem_cons_succ, List.getElem_cons_zero]; omega)
      simp only [List.getElem_cons_succ, List.getElem_cons_zero, hc1, ← Nat.add_assoc, Nat.one_mul] at hd
      refine hd.mono (fun w3 ⟨p, sl2, v3, hp, h3, hJ3⟩ => ⟨ce, p, sl2, v3, hc, hp, h3, hJ3 _ _ _ hJ⟩) fun w3 ⟨hp, h3⟩ => ⟨?_, h3⟩
      rw [hc]; simp only [Option.bind_some]; rw [hp]; rfl
    · have hg := exprC_good sl k1 ce hc
      have hgc := hg.cnt
      have hgp := blockC_good k2 _ _ _ hp
      have hgpc := hgp.cnt
      have hc1 : cnt (ce ++ ins 16 0 f0 noText ++ p) = cnt ce + 1 + cnt p := by rw [cnt_add (hg.append (good_ins _ _ _ _)).len, cnt_add hg.len, cnt_ins]
      refine (put_one hst.st (by rw [hc1]; simp only at hgpc; omega) 15 n _).mono (fun w4 ⟨v4, h4⟩ => ⟨ce, p, sl2, v4, hc, hp, ?_, hJ.steps h4⟩) fun _ h => h
      have := hst.trans h4
      rwa [List.append_assoc] at this
    · have hg := exprC_good sl k1 ce hc
      have hgc := hg.cnt
      have hgp := blockC_good k2 _ _ _ hp
      have hgpc := hgp.cnt
      have hc1 : cnt (ce ++ ins 16 0 f0 noText ++ (p ++ ins 15 n f0 noText)) = cnt ce + 1 + (cnt p + 1) := by rw [cnt_add (hg.append (good_ins _ _ _ _)).len, cnt_add hg.len, cnt_add hgp.len, cnt_ins, cnt_ins]
      refine (shut_one hx hxl hst hg.len hJ rfl (by rw [hc1]; simp only at hgpc; omega) _).mono (fun w5 h5 => ?_) fun _ h => h
      refine ⟨_, sl2, v4, ?_, h5.1⟩
      rw [hc]
      simp only [Option.bind_some]
      rw [hp, hc1]
      simp [Nat.add_assoc]
  · obtain ⟨ao, cap, rfl, hl⟩ := hn.len.slice
    rw [stmtC_many n sl t x ks a 11 2 (by decide) h1]
    exact stmt_many _ _ b w R nb no t x cap ks a 11 2 (by decide) hl h1 ao sl0 n cc (hb ▸ hC.em.cell) hn ⟨rfl, kp_refl _ _⟩
end
end Go.Proofs.Ytfkgfibmhhlemaa
namespace Go.Proofs.Ytfkgfibmhhlemaa
open Go.RowKit Go.Maps Go.WideMaps
section
variable {R : Nat → Prop} {sl sl1 sl2 : List (List UInt8)} {w w1 w2 : World} {B b mb n : Nat} {v v1 v2 : Value} {xs new new2 : List Value} {nb no kb ko ln cap : Nat} {k : Int} {t : ByteArray} {x : Nat} {S : Value} {ks : List Nd} {a : Int}
theorem Nd.eta (nd : Nd) : ∃ k t x ks a, nd = .mk k t x ks a := by cases nd; exact ⟨_, _, _, _, _, rfl⟩
/-- a branch with nothing else, or with what is none -/
theorem stmt_10a (k1 k2 k3 : Nd) (h3 : k3.kind = 0) (ih : NodeOk 18 blockC k2) (hC : Cst R sl w B b mb v n xs) (hx : ∀ u ∈ xs, u.oneCell' = true) (hn : NodeP R w nb no 10 t x (.slice (some ⟨kb, ko, none⟩) 3 cap) [k1, k2, k3] a)
    (hs : n + 2 * (1 + t.size + (k1.wt + (k2.wt + (k3.wt + 0)))) + 1 ≤ 3518437208883) :
    Does 27 #[pt b 0, pt nb no] w (Laid R (stmtC n sl (.mk 10 t x [k1, k2, k3] a)) w B b mb v n xs) (Thrown (stmtC n sl (.mk 10 t x [k1, k2, k3] a)) w b mb v) := by
  rw [stmtC.eq_def]
  simp only [show ¬ (10 : Int) = 9 by decide, if_false, if_true, h3]
  have hxl : xs.length = n * 4 := hC.em.own.1
  have w1p := wt_pos k1
  have w3p := wt_pos k3
  obtain ⟨kk, kt, kx, kks, ka, e3⟩ := k3.eta
  have hkk : kk = 0 := by rw [e3] at h3; exact h3
  have hkl : k3.kids = kks := by rw [e3]; rfl
  rw [hkl]
  obtain ⟨kk', kt', kx', S3, kks', ka', e3', hn3⟩ := hn.kid 2 (by simp)
  simp only [List.getElem_cons_succ, List.getElem_cons_zero] at e3'
  rw [show 2 * 5 = 10 from rfl] at hn3
  rw [e3] at e3'
  cases e3'
  subst hkk
  refine stmt_if _ (fun w1 => ∃ ce v1, exprC sl k1 = some ce ∧ Steps R sl w B b mb v n xs ce v1 w1)
    (fun e1 a1 w2 => ∃ ce v2, exprC sl k1 = some ce ∧ Steps R sl w B b mb v n xs (ce ++ ins 16 0 f0 noText) v2 w2 ∧ Jump w2 b mb e1 a1 (n + cnt ce) v2)
    (fun e1 a1 w3 => ∃ ce p sl2 v3, exprC sl k1 = some ce ∧ blockC (n + cnt ce + 1) sl k2 = some (p, sl2) ∧ Steps R sl2 w B b mb v n xs (ce ++ ins 16 0 f0 noText ++ p) v3 w3 ∧ Jump w3 b mb e1 a1 (n + cnt ce) v3)
    (fun e1 a1 w3 => kks.length = 0 ∧ ∃ ce p sl2 v3, exprC sl k1 = some ce ∧ blockC (n + cnt ce + 1) sl k2 = some (p, sl2) ∧ Steps R sl2 w B b mb v n xs (ce ++ ins 16 0 f0 noText ++ p) v3 w3 ∧ Jump w3 b mb e1 a1 (n + cnt ce) v3)
    _ b w R nb no kb ko t x cap _ a hn ((expr_does hC hn rfl (by omega)).mono (fun _ h => h) fun w1 h => ?_) (fun w1 ⟨ce, v1, hc, hst⟩ => ?_) (fun e1 a1 w2 ⟨ce, v2, hc, hst, hJ⟩ => ?_) (fun e1 a1 w2 ⟨ce, v2, hc, hst, hJ⟩ => ?_) (fun e1 a1 w3 ⟨ce, p, sl2, v3, hc, hp, hst, hJ⟩ => ?_) (fun e1 a1 w3 ⟨ce, p, sl2, v3, hc, hp, hst, hJ⟩ => ?_) (fun e1 a1 w4 ⟨hk0, ce, p, sl2, v4, hc, hp, hst, hJ⟩ => ?_)
  · rw [h.1]; exact ⟨rfl, h.2⟩
  · have hg := (exprC_good sl k1 ce hc).cnt
    exact (open_more hst (by omega) 16 _).mono (fun _ _ _ ⟨v', h2, hJ, _⟩ => ⟨ce, v', hc, h2, hJ⟩) fun _ h => h
  · exact (hn.kept (hst.rblock hC)).c3
  · have hg := exprC_good sl k1 ce hc
    have hgc := hg.cnt
    have hc1 : cnt (ce ++ ins 16 0 f0 noText) = cnt ce + 1 := by rw [cnt_add hg.len, cnt_ins]
    have hd := block_more ih hst hC hx hn 1 (by simp) rfl (by rw [hc1]; omega)
    simp only [hc1, ← Nat.add_assoc, Nat.one_mul] at hd
    refine hd.mono (fun w3 ⟨p, sl2, v3, hp, h3, hJ3⟩ => ⟨ce, p, sl2, v3, hc, hp, h3, hJ3 _ _ _ hJ⟩) fun w3 ⟨hp, h3⟩ => ⟨?_, h3⟩
    rw [hc]; simp only [Option.bind_some]; rw [hp]; rfl
  · exact ⟨(hn.kept (hst.rblock hC)).c3, (hn3.kept (hst.rblock hC)).c0⟩
  · have h3 := hn3.kept (hst.rblock hC)
    obtain ⟨ao, cp, rfl, hl⟩ := hn3.len.slice
    by_cases hk0 : kks.length = 0
    · have hz := kids_ok kb (ko + 10) ao kks.length cp w3 h3.c3
      rw [hk0] at hz
      refine hz.mono fun e w4 h => .inl ⟨⟨_, h.1⟩, hk0, ce, p, sl2, v3, hc, hp, ?_⟩
      rw [h.2]; exact ⟨hst, hJ⟩
    · have hz := kids_no kb (ko + 10) ao kks.length cp 0 w3 hl (by omega) hk0 h3.c3
      refine hz.mono fun e w4 h => .inr ⟨h.1, ?_, ?_⟩
      · rw [hc]; simp only [Option.bind_some]; rw [hp]; simp [hk0]
      · rw [h.2]; exact hst.kept
  · have hg := exprC_good sl k1 ce hc
    have hgc := hg.cnt
    have hgp := blockC_good k2 _ _ _ hp
    have hgpc := hgp.cnt
    have hc1 : cnt (ce ++ ins 16 0 f0 noText ++ p) = cnt ce + 1 + cnt p := by rw [cnt_add (hg.append (good_ins _ _ _ _)).len, cnt_add hg.len, cnt_ins]
    refine (shut_one hx hxl hst hg.len hJ rfl (by rw [hc1]; simp only at hgpc; omega) _).mono (fun w5 h5 => ?_) fun _ h => h
    refine ⟨_, sl2, v4, ?_, h5.1⟩
    rw [hc]
    simp only [Option.bind_some]
    rw [hp, hc1]
    simp [hk0, Nat.add_assoc]
end
end Go.Proofs.Ytfkgfibmhhlemaa
