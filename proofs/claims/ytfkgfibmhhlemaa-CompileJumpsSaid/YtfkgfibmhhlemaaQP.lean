/- CompileScripts: a part of the proof: the scanner, Script, the law CompileScripts (P0 P1 P2 P3 P4 P5 P6 P7 P8 P9). No conditions. -/
import Derived.Test.YtfkgfibmhhlemaaQO
import Derived.Laws.BytesArg
import Derived.Test.YtfkgfibmhhlemaaQS
import Derived.HandedShaped
import Derived.JoinedOf
namespace Go.Proofs.Ytfkgfibmhhlemaa
open Go.RowKit Go.Maps Go.WideMaps
set_option maxHeartbeats 800000 in
theorem letter_any (c : Int) (w : World) : Calls Try.prog 54 #[.int .u8 c] w fun e w' => Bl e ∧ w' = w := by
  cases h1 : decide ((97 : Int) ≤ c) <;> cases h2 : decide (c ≤ 122) <;> cases h3 : decide ((65 : Int) ≤ c) <;> cases h4 : decide (c ≤ 90) <;> cases h5 : (c == 95)
  all_goals
    go_enter Try.func54, Try.ntmps54
    go_wp2_with fail
    go_ret
    exact ⟨⟨_, rfl⟩, rfl⟩
set_option maxHeartbeats 800000 in
theorem digit_any (c : Int) (w : World) : Calls Try.prog 55 #[.int .u8 c] w fun e w' => e = .returned (.bool (decide ((48 : Int) ≤ c) && decide (c ≤ 57))) ∧ w' = w := by
  cases h1 : decide ((48 : Int) ≤ c) <;> cases h2 : decide (c ≤ 57)
  all_goals
    go_enter Try.func55, Try.ntmps55
    go_wp2_with fail
    go_ret
    exact ⟨rfl, rfl⟩
set_option maxHeartbeats 1600000 in
theorem blanks_any (s : ByteArray) (at_ : Nat) (hat : at_ ≤ s.size) (hs : s.size ≤ 65536) (w : World) : Calls Try.prog 43 #[.string s, .int .i64 at_] w fun e w' => (∃ k : Nat, e = .returned (.int .i64 k) ∧ at_ ≤ k ∧ k ≤ s.size) ∧ w' = w := by
  go_enter Try.func43, Try.ntmps43
  go_wp2_with fail
  go_loopw [1] (fun i wr => ∃ k : Nat, i = .int .i64 k ∧ at_ ≤ k ∧ k ≤ s.size ∧ wr = w) (fun i _ => s.size - (intOf i).toNat)
  case atStart => exact ⟨at_, rfl, Nat.le_refl _, hat, rfl⟩
  case round =>
    obtain ⟨k, rfl, hk1, hk2, rfl⟩ := hrel
    by_cases hlt : k < s.size
    · cases h1 : ((s[k].toNat : Int) == 32) <;> cases h2 : ((s[k].toNat : Int) == 9) <;> cases h3 : ((s[k].toNat : Int) == 10) <;> cases h4 : ((s[k].toNat : Int) == 13)
      case' false.false.false.false => cases h5 : ((s[k].toNat : Int) == 35)
      case' false.false.false.false.true =>
        go_wp2_with fail
        have hk : Hid (k = k) := rfl
        go_loopw [1] (fun i wr2 => ∃ k2 : Nat, i = .int .i64 k2 ∧ k ≤ k2 ∧ k2 ≤ s.size ∧ wr2 = wr) (fun i _ => s.size - (intOf i).toNat)
        case atStart => exact ⟨k, rfl, Nat.le_refl _, hk2, rfl⟩
        case round =>
          obtain ⟨k2, rfl, hq1, hq2, rfl⟩ := hrel
          by_cases hlt2 : k2 < s.size
          · cases h6 : ((s[k2].toNat : Int) != 10)
            · have hne : k2 ≠ k := fun e => by
                subst e
                simp at h5 h6
                omega
              go_wp2_with fail
              exact ⟨⟨k2, rfl, by omega, hq2, trivial⟩, by simp [intOf]; omega⟩
            · go_wp2_with fail
              exact ⟨⟨k2 + 1, by simp, by omega, by omega, trivial⟩, by simp [intOf]; omega⟩
          · obtain rfl : k2 = s.size := by omega
            go_wp2_with fail
            exact ⟨⟨_, rfl, by omega, Nat.le_refl _, trivial⟩, by simp [intOf]; omega⟩
      case' false.false.false.false.false =>
        go_wp2_with fail
        go_ret
        exact ⟨⟨_, rfl, hk1, hk2⟩, rfl⟩
      all_goals
        go_wp2_with fail
        exact ⟨⟨k + 1, by simp, by omega, by omega, trivial⟩, by simp [intOf]; omega⟩
    · obtain rfl : k = s.size := by omega
      go_wp2_with fail
      go_ret
      exact ⟨⟨_, rfl, hat, Nat.le_refl _⟩, rfl⟩
end Go.Proofs.Ytfkgfibmhhlemaa
namespace Go.Proofs.Ytfkgfibmhhlemaa
open Go.RowKit Go.Maps Go.WideMaps
set_option maxHeartbeats 1600000 in
theorem digits_any (s : ByteArray) (at_ : Nat) (hat : at_ ≤ s.size) (hs : s.size ≤ 65536) (w : World) : Calls Try.prog 70 #[.string s, .int .i64 at_] w fun e w' => (∃ k : Nat, e = .returned (.int .i64 k) ∧ at_ + k ≤ s.size) ∧ w' = w := by
  go_enter Try.func70, Try.ntmps70
  go_wp2_with fail
  go_loopw [5] (fun i wr => ∃ k : Nat, i = .int .i64 k ∧ at_ ≤ k ∧ k ≤ s.size ∧ wr = w) (fun i _ => s.size - (intOf i).toNat)
  case atStart => exact ⟨at_, rfl, Nat.le_refl _, hat, rfl⟩
  case round =>
    obtain ⟨k, rfl, hk1, hk2, rfl⟩ := hrel
    have hcast : ((k : Int) - (at_ : Int)) = ((k - at_ : Nat) : Int) := by omega
    by_cases hlt : k < s.size
    · cases h1 : decide ((48 : Int) ≤ (s[k].toNat : Int)) <;> cases h2 : decide ((s[k].toNat : Int) ≤ 57)
      case' true.true =>
        go_wp2_with fail
        exact ⟨⟨k + 1, by simp, by omega, by omega, trivial⟩, by simp [intOf]; omega⟩
      all_goals
        go_wp2_with fail
        go_ret
        exact ⟨⟨k - at_, by first | rfl | (simp; omega), by omega⟩, rfl⟩
    · obtain rfl : k = s.size := by omega
      go_wp2_with fail
      go_ret
      exact ⟨⟨s.size - at_, by first | rfl | (simp; omega), by omega⟩, rfl⟩
/-- a number and a code -/
def Nc (e : Ending) : Prop := ∃ x c : Int, e = .returned (.tuple #[.int .u64 x, .int .i64 c])
set_option maxHeartbeats 1600000 in
theorem ofdec_any (s : ByteArray) (hs : s.size ≤ 65536) (w : World) : Calls Try.prog 71 #[.string s] w fun e w' => Nc e ∧ w' = w := by
  cases h1 : decide ((s.size : Int) < 1)
  · have h0 : 0 < s.size := by simp at h1; omega
    cases h2 : decide ((20 : Int) < (s.size : Int)) <;> cases h3 : decide ((1 : Int) < (s.size : Int)) <;> cases h4 : ((s[0].toNat : Int) == 48)
    all_goals
      go_enter Try.func71, Try.ntmps71
      go_wp2_with fail
    all_goals first
      | (go_ret2; exact ⟨⟨_, _, rfl⟩, rfl⟩)
      | (go_loopw [4, 5] (fun x i wr => ∃ (X : Int) (k : Nat), x = .int .u64 X ∧ i = .int .i64 k ∧ k ≤ s.size ∧ wr = w) (fun _ i _ => s.size - (intOf i).toNat)
         case atStart => exact ⟨0, 0, rfl, rfl, by omega, rfl⟩
         case round =>
           obtain ⟨X, k, rfl, rfl, hk, rfl⟩ := hrel
           by_cases hlt : k < s.size
           · cases g1 : decide ((s[k].toNat : Int) < 48) <;> cases g2 : decide ((57 : Int) < (s[k].toNat : Int))
             all_goals go_wp2_with fail
             all_goals first
               | (go_ret2; exact ⟨⟨_, _, rfl⟩, rfl⟩)
               | exact ⟨⟨_, k + 1, rfl, by simp, by omega, trivial⟩, by simp [intOf]; omega⟩
           · obtain rfl : k = s.size := by omega
             go_wp2_with fail
             go_ret2
             exact ⟨⟨_, _, rfl⟩, rfl⟩)
  · go_enter Try.func71, Try.ntmps71
    go_wp2_with fail
    go_ret2
    exact ⟨⟨_, _, rfl⟩, rfl⟩
/-- a float and a bool -/
def Fb (e : Ending) : Prop := ∃ (x : Nat) (b : Bool), e = .returned (.tuple #[.float .f64 x, .bool b])
set_option maxHeartbeats 1600000 in
theorem long_any (s : ByteArray) (hs : s.size ≤ 65536) (w : World) : Calls Try.prog 65 #[.string s] w fun e w' => Fb e ∧ Kp (fun _ => False) w w' := by
  go_enter Try.func65, Try.ntmps65
  go_wp2_with (go_at_call 71; refine Calls.mono (ofdec_any s hs _) ?_; rintro e w1 ⟨⟨x, c, rfl⟩, rfl⟩; cases g1 : (c == 0) <;> cases g2 : ((s.size : Int) == 16) <;> cases g3 : decide (x ≤ 9007199254740992))
  all_goals first
    | (go_ret2; exact ⟨⟨_, _, rfl⟩, kp_refl _ _⟩)
end Go.Proofs.Ytfkgfibmhhlemaa
namespace Go.Proofs.Ytfkgfibmhhlemaa
open Go.RowKit Go.Maps Go.WideMaps
/-- digits and points alone -/
def Low (s : ByteArray) : Prop := ∀ k (h : k < s.size), 46 ≤ s[k].toNat ∧ s[k].toNat ≤ 57
set_option maxHeartbeats 800000 in
theorem powers_low (s : ByteArray) (hs : s.size ≤ 65536) (hl : Low s) (w : World) : Calls Try.prog 64 #[.string s] w fun e w' => Fb e ∧ Kp (fun _ => False) w w' := by
  go_enter Try.func64, Try.ntmps64
  go_wp2_with (go_at_call 70; refine Calls.mono (digits_any s 0 (Nat.zero_le _) hs _) ?_; rintro e w1 ⟨⟨k, rfl, hk⟩, rfl⟩; by_cases hkl : k < s.size; all_goals try (have g4 : ((s[k].toNat : Int) != 112) = true := (by have := (hl k hkl).2; rw [bne_iff_ne]; omega)); all_goals try (have g3 : decide ((s.size : Int) ≤ (k : Int)) = true := (by simp; omega)); all_goals (cases g1 : ((k : Int) == 0) <;> cases g2 : decide ((16 : Int) < (k : Int))))
  all_goals
    go_ret2
    exact ⟨⟨_, _, rfl⟩, kp_refl _ _⟩
theorem f_run (op : BinOp) (ho : op = .add ∨ op = .mul ∨ op = .quo) (x y : Nat) (w : World) : ∃ r n, (binOp op 22 (.float .f64 x) (.float .f64 y)).run Try.prog w = .ok (.float .f64 r) (w.drewN n) := by
  cases hb : floatBits op .f64 x y with
  | some r => exact ⟨r, 0, run_float_arith w op 22 .f64 x y r hb⟩
  | none =>
    rcases ho with rfl | rfl | rfl
    · have h : FloatKind.f64.format.add x y = none := hb
      simp only [binOp, Op.floatArith, h]
      simp
      split
      · exact ⟨_, 0, rfl⟩
      · exact ⟨_, 1, rfl⟩
    · have h : FloatKind.f64.format.mul x y = none := hb
      simp only [binOp, Op.floatArith, h]
      simp
      split
      · exact ⟨_, 0, rfl⟩
      · exact ⟨_, 1, rfl⟩
    · have h : FloatKind.f64.format.div x y = none := hb
      simp only [binOp, Op.floatArith, h]
      simp
      split
      · exact ⟨_, 0, rfl⟩
      · exact ⟨_, 1, rfl⟩
theorem f_all (op : BinOp) (ho : op = .add ∨ op = .mul ∨ op = .quo) : ∃ (f n : Nat → Nat → World → Nat), ∀ x y w, (binOp op 22 (.float .f64 x) (.float .f64 y)).run Try.prog w = .ok (.float .f64 (f x y w)) (w.drewN (n x y w)) :=
  ⟨fun x y w => (f_run op ho x y w).choose, fun x y w => (f_run op ho x y w).choose_spec.choose, fun x y w => (f_run op ho x y w).choose_spec.choose_spec⟩
set_option maxHeartbeats 400000 in
theorem decimal_any (s : ByteArray) (hs : s.size ≤ 65536) (w : World) : Calls Try.prog 63 #[.string s] w fun e w' => Fb e ∧ Kp (fun _ => False) w w' := by
  obtain ⟨fm, nm, hfm⟩ := f_all .mul (by simp)
  obtain ⟨fa, na, hfa⟩ := f_all .add (by simp)
  obtain ⟨fq, nq, hfq⟩ := f_all .quo (by simp)
  go_enter Try.func63, Try.ntmps63
  go_wp2_with fail
  refine Calls.mono (digits_any s 0 (Nat.zero_le _) hs _) ?_
  rintro e w1 ⟨⟨k, rfl, hk⟩, rfl⟩
  by_cases hkl : k < s.size
  · cases g0 : ((s[k].toNat : Int) == 46)
    · cases g1 : ((k : Int) != (s.size : Int))
      · simp at g1; omega
      · go_wp2_with fail
        go_ret2
        exact ⟨⟨_, _, rfl⟩, kp_refl _ _⟩
    · go_wp2_with fail
      refine Calls.mono (digits_any s (k + 1) (by omega) hs _) ?_
      rintro e w2 ⟨⟨less, rfl, hless⟩, rfl⟩
      cases g1 : ((less : Int) == 0) <;> cases g2 : ((k : Int) + 1 + (less : Int) != (s.size : Int))
      case' false.false =>
        have hA : (s.extract 0 k ++ s.extract (k + 1) s.size).size ≤ 65536 := by simp [ByteArray.size_append, ByteArray.size_extract]; omega
        cases g4 : ((k : Int) == 0)
      all_goals go_wp2_with fail
      all_goals first
        | (go_ret2; exact ⟨⟨_, _, rfl⟩, kp_refl _ _⟩)
        | skip
      all_goals
        generalize s.extract 0 k ++ s.extract (k + 1) s.size = A at hA ⊢
        go_loopw [7, 9] (fun x i wr => ∃ (X : Nat) (j : Nat), x = .float .f64 X ∧ i = .int .i64 j ∧ j ≤ A.size ∧ Kp (fun _ => False) w2 wr) (fun _ i _ => A.size - (intOf i).toNat)
        case atStart => exact ⟨_, 0, rfl, rfl, by omega, kp_refl _ _⟩
        case round =>
          obtain ⟨X, j, rfl, rfl, hj, hkp⟩ := hrel
          by_cases hlt : j < A.size
          · go_wp2_with fail
            exact ⟨⟨_, j + 1, rfl, by simp, by omega, by first | exact kp_refl _ _ | exact hkp | exact hkp.drewM _ | exact (hkp.drewM _).drewM _⟩, by simp [intOf]; omega⟩
          · obtain rfl : j = A.size := by omega
            go_wp2_with fail
            go_loopw [8, 10] (fun x i wr2 => ∃ (Y : Nat) (j : Nat), x = .float .f64 Y ∧ i = .int .i64 j ∧ j ≤ less ∧ Kp (fun _ => False) w2 wr2) (fun _ i _ => less - (intOf i).toNat)
            case atStart => exact ⟨_, 0, rfl, rfl, by omega, hkp⟩
            case round =>
              obtain ⟨Y, j2, rfl, rfl, hj2, hkp⟩ := hrel
              by_cases hlt2 : j2 < less
              · go_wp2_with fail
                exact ⟨⟨_, j2 + 1, rfl, by simp, by omega, by first | exact kp_refl _ _ | exact hkp | exact hkp.drewM _ | exact (hkp.drewM _).drewM _⟩, by simp [intOf]; omega⟩
              · obtain rfl : j2 = less := by omega
                go_wp2_with fail
                go_ret2
                exact ⟨⟨_, _, rfl⟩, by first | exact kp_refl _ _ | exact hkp | exact hkp.drewM _ | exact (hkp.drewM _).drewM _⟩
  · obtain rfl : k = s.size := by omega
    cases g1 : ((s.size : Int) == 0) <;> cases g2 : decide ((15 : Int) < (s.size : Int))
    all_goals go_wp2_with fail
    all_goals first
      | (go_ret2; exact ⟨⟨_, _, rfl⟩, by first | exact kp_refl _ _ | exact hkp | exact hkp.drewM _ | exact (hkp.drewM _).drewM _⟩)
      | skip
    go_loopw [7, 9] (fun x i wr => ∃ (X : Nat) (j : Nat), x = .float .f64 X ∧ i = .int .i64 j ∧ j ≤ s.size ∧ Kp (fun _ => False) w1 wr) (fun _ i _ => s.size - (intOf i).toNat)
    case atStart => exact ⟨_, 0, rfl, rfl, by omega, kp_refl _ _⟩
    case round =>
      obtain ⟨X, j, rfl, rfl, hj, hkp⟩ := hrel
      by_cases hlt : j < s.size
      · go_wp2_with fail
        exact ⟨⟨_, j + 1, rfl, by simp, by omega, by first | exact kp_refl _ _ | exact hkp | exact hkp.drewM _ | exact (hkp.drewM _).drewM _⟩, by simp [intOf]; omega⟩
      · obtain rfl : j = s.size := by omega
        go_wp2_with fail
        go_loopw [8, 10] (fun x i wr2 => ∃ (Y : Nat) (j : Nat), x = .float .f64 Y ∧ i = .int .i64 j ∧ j ≤ 0 ∧ Kp (fun _ => False) w1 wr2) (fun _ i _ => 0 - (intOf i).toNat)
        case atStart => exact ⟨_, 0, rfl, rfl, by omega, hkp⟩
        case round =>
          obtain ⟨Y, j2, rfl, rfl, hj2, hkp⟩ := hrel
          by_cases hlt2 : j2 < 0
          · exact absurd hlt2 (Nat.not_lt_zero _)
          · obtain rfl : j2 = 0 := by omega
            go_wp2_with fail
            go_ret2
            exact ⟨⟨_, _, rfl⟩, by first | exact kp_refl _ _ | exact hkp | exact hkp.drewM _ | exact (hkp.drewM _).drewM _⟩
end Go.Proofs.Ytfkgfibmhhlemaa
namespace Go.Proofs.Ytfkgfibmhhlemaa
open Go.RowKit Go.Maps Go.WideMaps
/-- a float and a code -/
def Fc (e : Ending) : Prop := ∃ (x : Nat) (c : Int), e = .returned (.tuple #[.float .f64 x, .int .i64 c])
theorem low_head {s : ByteArray} (hp : 0 < s.size) (hl : Low s) (b : UInt8) (r : List UInt8) (hb : 57 < b.toNat ∨ b.toNat < 46) : (s.toList == b :: r) = false := by
  rw [beq_eq_false_iff_ne]
  intro e
  rw [ByteArray.toList_eq] at e
  have h0 := hl 0 hp
  have : s.data.toList[0]? = some b := by rw [e]; rfl
  have h1 : s[0] = b := by
    have h2 : s.data[0]? = some b := by simpa using this
    have h3 : s.data[0]? = some s.data[0] := Array.getElem?_eq_getElem hp
    rw [h3] at h2
    exact Option.some.inj h2
  rw [h1] at h0
  omega
set_option maxHeartbeats 1600000 in
theorem oftext_low (s : ByteArray) (hs : s.size ≤ 65536) (hp : 0 < s.size) (hl : Low s) (w : World) : Calls Try.prog 56 #[.string s] w fun e w' => Fc e ∧ Kp (fun _ => False) w w' := by
  have q1 := low_head hp hl 110 [97, 110] (by decide)
  have q2 := low_head hp hl 105 [110, 102] (by decide)
  have q3 := low_head hp hl 45 [105, 110, 102] (by decide)
  have q4 : ((s[0].toNat : Int) == 45) = false := by have := hl 0 hp; rw [beq_eq_false_iff_ne]; omega
  have q5 : decide ((s.size : Int) < (s.size : Int)) = false := by simp
  go_enter Try.func56, Try.ntmps56
  go_wp2_with (first
    | (go_at_call 63; refine Calls.mono (decimal_any s hs _) ?_; rintro e w1 ⟨⟨x, b, rfl⟩, hk⟩; cases b)
    | (go_at_call 64; refine Calls.mono (powers_low s hs hl _) ?_; rintro e w2 ⟨⟨x, b, rfl⟩, hk2⟩; replace hk := hk.trans hk2; cases b)
    | (go_at_call 65; refine Calls.mono (long_any s hs _) ?_; rintro e w3 ⟨⟨x, b, rfl⟩, hk3⟩; replace hk := hk.trans hk3; cases b))
  all_goals
    go_ret2
    exact ⟨⟨_, _, rfl⟩, hk⟩
end Go.Proofs.Ytfkgfibmhhlemaa
namespace Go.Proofs.Ytfkgfibmhhlemaa
open Go.RowKit Go.Maps Go.WideMaps
theorem info5 : (Try.prog.info? 5).map (fun i => (i.zero, i.size, i.bytes)) = some (some (.int .u8 0), 1, 1) := by kernel_rfl
theorem endq {fn : Func} (hr : fn.results = #[.cell 4 68, .tmp 5, .tmp 6]) {W : World} {g : Nat} {cs : Array Value} {Q : Ending → World → Prop} {tmps : Array Value} (hh : W.heap[g]? = some (.cells cs 68)) (ht : tmps.getD 4 undef = .pointer (some ⟨g, 0, none⟩)) (hQ : Q (.returned (.tuple #[.agg cs, tmps.getD 5 undef, tmps.getD 6 undef])) W) (hcs : cs.size = 4 := by rfl) : bodyPost Try.prog fn Q .ret { tmps := tmps, defers := [] } W := by
  refine bodyPost_ret ?_ rfl hQ
  have hp' : tmps[4]?.getD undef = .pointer (some ⟨g, 0, none⟩) := by simpa using ht
  simp [results, hr, hp', asAddr, run_loadVar_row W g 68 68 cs (0, 0) _ hh Try.underlying68 rfl (by rw [size68, hcs])]
/-- what the scanner says of a token: where it ends -/
def LexPost (s : ByteArray) (at_ : Nat) (w : World) (e : Ending) (w' : World) : Prop := ∃ (T : Tok) (to : Nat) (c : Int), e = .returned (.tuple #[T.V, .int .i64 to, .int .i64 c]) ∧ (c = 0 → at_ < to ∧ to ≤ s.size ∧ T.t.size ≤ to - at_) ∧ Kp (fun _ => False) w w'
/-- bytes under way -/
structure QI (w : World) (v : Value) (xs : List Int) (wr : World) : Prop where
  own : wr.ownsRow w.heap.size 5 1 v xs.length (xs.map (Value.int .u8))
  kp : Kp (fun _ => False) w wr
  r : wr.heap[w.heap.size]? = some (.cells #[.int .i64 0, .string ⟨#[]⟩, .float .f64 0, .int .i64 0] 68)
  far : v.ownBlock ≠ some w.heap.size
theorem QI.push {w wr w2 : World} {v v1 : Value} {xs : List Int} {o : Obj} (h : QI w v xs wr) (X : Int) (ho : w2.ownsRow w.heap.size 5 1 v1 (xs.length + 1) (xs.map (Value.int .u8) ++ [.int .u8 X])) (hg : (wr.alloc o).grownBy w2 v.ownBlock) (hf : ∀ k, v1.ownBlock = some k → v.ownBlock = some k ∨ (wr.alloc o).heap.size ≤ k) : QI w v1 (xs ++ [X]) w2 := by
  have hs := h.kp.size
  have hr := blk_lt h.r
  have hsz := hg.size
  rw [World.size_alloc] at hsz
  have hb : ∀ k, k < wr.heap.size → v.ownBlock ≠ some k → w2.heap[k]? = wr.heap[k]? := fun k hk hn => (hg.block k (by rw [World.size_alloc]; omega) fun e => hn e.symm).trans (heap_alloc_old wr _ hk)
  refine ⟨by simpa using ho, ⟨hg.os.trans h.kp.os, hg.tape.trans h.kp.tape, hg.output.trans h.kp.output, by omega, fun k hk _ => (hb k (by omega) fun e => ?_).trans (h.kp.block k hk fun e => e)⟩, (hb _ hr h.far).trans h.r, fun e => ?_⟩
  · have := (h.own.lt k e).1
    omega
  · rcases hf _ e with h1 | h1
    · exact h.far h1
    · rw [World.size_alloc] at h1; omega
theorem QI.conv {w wr : World} {v : Value} {xs : List Int} (h : QI w v xs wr) : ∃ t : ByteArray, t.size = xs.length ∧ (convert 108 9 v).run Try.prog wr = .ok (.string t) wr := by
  rcases h.own.2 with ⟨e, h0⟩ | ⟨g, cap, cur, e, _⟩
  · subst e
    exact ⟨ByteArray.empty, h0.symm, run_convert_bytes_nil wr 108 5 Try.underlying108 Try.underlying5 0 0 9 Try.underlying9⟩
  · subst e
    refine ⟨strOfNums xs, strOfNums_size xs, run_convert_bytes_arg wr 108 5 Try.underlying108 Try.underlying5 g 0 _ cap xs rfl (fun i hi => ?_) 9 Try.underlying9⟩
    have hc := h.own.cells (g := g) rfl i (.int .u8 (xs.getD i 0)) (by simp [hi])
    rw [Nat.zero_add]
    rw [show (⟨g, 0, none⟩ : Addr).add i = ⟨g, i, none⟩ by cases i <;> simp [Addr.add]] at hc
    exact hc
set_option maxHeartbeats 4000000 in
set_option maxRecDepth 100000 in
theorem quoted_any (s : ByteArray) (at_ : Nat) (hat : at_ < s.size) (hs : s.size ≤ 65536) (w : World) : Calls Try.prog 57 #[.string s, .int .i64 at_] w (LexPost s at_ w) := by
  obtain ⟨i0, hi0, hz0, hz1, hz2⟩ := info_parts info5
  have hsf := store_f
  have hq0 : QI w (.slice none 0 0) [] (w.alloc (.cells #[.int .i64 0, .string ⟨#[]⟩, .float .f64 0, .int .i64 0] 68)) := ⟨World.ownsRow_nil _ _ _ _, kp_alloc w _, heap_alloc_new w _, by simp [Value.ownBlock]⟩
  go_enter Try.func57, Try.ntmps57
  go_wp2_with fail
  go_loopw [7, 8] (fun v i wr => ∃ (k : Nat) (xs : List Int), i = .int .i64 k ∧ QI w v xs wr ∧ at_ + 1 ≤ k ∧ k ≤ s.size ∧ xs.length + at_ + 1 ≤ k) (fun _ i _ => s.size - (intOf i).toNat)
  case atStart => exact ⟨at_ + 1, [], by simp, hq0, Nat.le_refl _, by omega, by simp⟩
  case round =>
    obtain ⟨k, xs, rfl, hq, hk1, hk2, hk3⟩ := hrel
    clear hq0
    obtain ⟨⟨p0, p1, p2, p3⟩, z0, z1, z2, z3⟩ := row4 hq.r
    have hrl := blk_lt hq.r
    obtain ⟨av, cv, rfl⟩ : ∃ a c, u7 = .slice a xs.length c := by
      rcases hq.own.2 with ⟨e, h0⟩ | ⟨g, cap, cur, e, _⟩
      · exact ⟨none, 0, by rw [e, h0]⟩
      · exact ⟨_, _, e⟩
    by_cases hlt : k < s.size
    · cases h34 : ((s[k].toNat : Int) != 34)
      · obtain ⟨t, hts, hcv⟩ := hq.conv
        cases g1 : decide ((1024 : Int) < (xs.length : Int))
        · go_wp2_with fail
          exact endq rfl (sets4_row hq.r) rfl ⟨⟨3, t, 0, at_⟩, k + 1, 0, by simp, fun _ => ⟨by omega, by omega, by simp only; omega⟩, hq.kp.own (kp_sets4 _ _ _ _ _ _) (Nat.le_refl _)⟩
        · go_wp2_with fail
          exact endq rfl (sets4_row hq.r) rfl ⟨⟨0, ⟨#[]⟩, 0, 0⟩, 0, 1801, rfl, fun e => absurd e (by decide), hq.kp.own (kp_sets4 _ _ _ _ _ _) (Nat.le_refl _)⟩
      · cases h32 : decide ((s[k].toNat : Int) < 32)
        · cases h92 : ((s[k].toNat : Int) == 92)
          · go_wp2_with (at_builtin; refine wpList_own rfl (.tmp 51) (.tmp 53) 108 rfl w.heap.size 5 i0 _ 1 1 Try.underlying108 hi0 hz0 hz1 hz2 rfl (by decide) _ xs.length (xs.map (Value.int .u8)) rfl (hq.own.alloc _) ⟨wr.heap.size, 0, none⟩ 1 [.int .u8 (s[k].toNat : Int)] rfl rfl (by exact (cell_one_new _ _ _)) (by intro u hu; simp at hu; subst hu; rfl) (by unfold maxLen; omega) (by omega) (by have := hq.kp.size; simp; omega) ?_; intro v1 w2 hown1 hgrow1 hfr1; have hq2 := hq.push _ hown1 hgrow1 hfr1; clear hown1 hgrow1 hfr1)
            exact ⟨⟨k + 1, xs ++ [(s[k].toNat : Int)], by simp <;> omega, hq2, by omega, by omega, by simp; omega⟩, by simp [intOf]; omega⟩
          · by_cases hlt2 : k + 1 < s.size
            · cases g1 : ((s[k + 1].toNat : Int) == 34)
              · cases g2 : ((s[k + 1].toNat : Int) == 92)
                · cases g3 : ((s[k + 1].toNat : Int) == 110)
                  · cases g4 : ((s[k + 1].toNat : Int) == 116)
                    · go_wp2_with fail
                      exact endq rfl (sets4_row hq.r) rfl ⟨⟨0, ⟨#[]⟩, 0, 0⟩, 0, 1801, rfl, fun e => absurd e (by decide), hq.kp.own (kp_sets4 _ _ _ _ _ _) (Nat.le_refl _)⟩
                    · go_wp2_with (at_builtin; refine wpList_own rfl (.tmp 51) (.tmp 53) 108 rfl w.heap.size 5 i0 _ 1 1 Try.underlying108 hi0 hz0 hz1 hz2 rfl (by decide) _ xs.length (xs.map (Value.int .u8)) rfl (hq.own.alloc _) ⟨wr.heap.size, 0, none⟩ 1 [.int .u8 9] rfl rfl (by exact (cell_one_new _ _ _)) (by intro u hu; simp at hu; subst hu; rfl) (by unfold maxLen; omega) (by omega) (by have := hq.kp.size; simp; omega) ?_; intro v1 w2 hown1 hgrow1 hfr1; have hq2 := hq.push _ hown1 hgrow1 hfr1; clear hown1 hgrow1 hfr1)
                      exact ⟨⟨k + 2, xs ++ [9], by simp <;> omega, hq2, by omega, by omega, by simp; omega⟩, by simp [intOf]; omega⟩
                  · go_wp2_with (at_builtin; refine wpList_own rfl (.tmp 51) (.tmp 53) 108 rfl w.heap.size 5 i0 _ 1 1 Try.underlying108 hi0 hz0 hz1 hz2 rfl (by decide) _ xs.length (xs.map (Value.int .u8)) rfl (hq.own.alloc _) ⟨wr.heap.size, 0, none⟩ 1 [.int .u8 10] rfl rfl (by exact (cell_one_new _ _ _)) (by intro u hu; simp at hu; subst hu; rfl) (by unfold maxLen; omega) (by omega) (by have := hq.kp.size; simp; omega) ?_; intro v1 w2 hown1 hgrow1 hfr1; have hq2 := hq.push _ hown1 hgrow1 hfr1; clear hown1 hgrow1 hfr1)
                    exact ⟨⟨k + 2, xs ++ [10], by simp <;> omega, hq2, by omega, by omega, by simp; omega⟩, by simp [intOf]; omega⟩
                · go_wp2_with (at_builtin; refine wpList_own rfl (.tmp 51) (.tmp 53) 108 rfl w.heap.size 5 i0 _ 1 1 Try.underlying108 hi0 hz0 hz1 hz2 rfl (by decide) _ xs.length (xs.map (Value.int .u8)) rfl (hq.own.alloc _) ⟨wr.heap.size, 0, none⟩ 1 [.int .u8 (s[k + 1].toNat : Int)] rfl rfl (by exact (cell_one_new _ _ _)) (by intro u hu; simp at hu; subst hu; rfl) (by unfold maxLen; omega) (by omega) (by have := hq.kp.size; simp; omega) ?_; intro v1 w2 hown1 hgrow1 hfr1; have hq2 := hq.push _ hown1 hgrow1 hfr1; clear hown1 hgrow1 hfr1)
                  exact ⟨⟨k + 2, xs ++ [(s[k + 1].toNat : Int)], by simp <;> omega, hq2, by omega, by omega, by simp; omega⟩, by simp [intOf]; omega⟩
              · go_wp2_with (at_builtin; refine wpList_own rfl (.tmp 51) (.tmp 53) 108 rfl w.heap.size 5 i0 _ 1 1 Try.underlying108 hi0 hz0 hz1 hz2 rfl (by decide) _ xs.length (xs.map (Value.int .u8)) rfl (hq.own.alloc _) ⟨wr.heap.size, 0, none⟩ 1 [.int .u8 (s[k + 1].toNat : Int)] rfl rfl (by exact (cell_one_new _ _ _)) (by intro u hu; simp at hu; subst hu; rfl) (by unfold maxLen; omega) (by omega) (by have := hq.kp.size; simp; omega) ?_; intro v1 w2 hown1 hgrow1 hfr1; have hq2 := hq.push _ hown1 hgrow1 hfr1; clear hown1 hgrow1 hfr1)
                exact ⟨⟨k + 2, xs ++ [(s[k + 1].toNat : Int)], by simp <;> omega, hq2, by omega, by omega, by simp; omega⟩, by simp [intOf]; omega⟩
            · have hge : decide ((s.size : Int) ≤ (k : Int) + 1) = true := by simp; omega
              go_wp2_with fail
              exact endq rfl (sets4_row hq.r) rfl ⟨⟨0, ⟨#[]⟩, 0, 0⟩, 0, 1801, rfl, fun e => absurd e (by decide), hq.kp.own (kp_sets4 _ _ _ _ _ _) (Nat.le_refl _)⟩
        · go_wp2_with fail
          exact endq rfl (sets4_row hq.r) rfl ⟨⟨0, ⟨#[]⟩, 0, 0⟩, 0, 1801, rfl, fun e => absurd e (by decide), hq.kp.own (kp_sets4 _ _ _ _ _ _) (Nat.le_refl _)⟩
    · obtain rfl : k = s.size := by omega
      go_wp2_with fail
      exact endq rfl (sets4_row hq.r) rfl ⟨⟨0, ⟨#[]⟩, 0, 0⟩, 0, 1801, rfl, fun e => absurd e (by decide), hq.kp.own (kp_sets4 _ _ _ _ _ _) (Nat.le_refl _)⟩
end Go.Proofs.Ytfkgfibmhhlemaa
namespace Go.Proofs.Ytfkgfibmhhlemaa
open Go.RowKit Go.Maps Go.WideMaps
/-- digits and points from one place to another -/
def LowR (s : ByteArray) (a k : Nat) : Prop := ∀ j (h : j < s.size), a ≤ j → j < k → 46 ≤ s[j].toNat ∧ s[j].toNat ≤ 57
theorem LowR.next {s : ByteArray} {a k : Nat} (h : LowR s a k) (hk : k < s.size) (hd : (46 : Int) ≤ s[k].toNat ∧ (s[k].toNat : Int) ≤ 57) : LowR s a (k + 1) := fun j hj h1 h2 => by
  by_cases e : j < k
  · exact h j hj h1 e
  · obtain rfl : j = k := by omega
    omega
theorem LowR.low {s : ByteArray} {a k : Nat} (h : LowR s a k) (hk : k ≤ s.size) : Low (s.extract a k) := fun j hj => by
  have hsz : (s.extract a k).size = min k s.size - a := by simp [ByteArray.size_extract]
  rw [hsz] at hj
  have e : (s.extract a k)[j]'(by rw [hsz]; exact hj) = s[a + j]'(by omega) := by simp [ByteArray.getElem_extract]
  rw [e]
  exact h (a + j) (by omega) (by omega) (by omega)
def dig (c : Int) : Bool := decide ((48 : Int) ≤ c) && decide (c ≤ 57)
theorem digit_dig (c : Int) (w : World) : Calls Try.prog 55 #[.int .u8 c] w fun e w' => e = .returned (.bool (dig c)) ∧ w' = w := digit_any c w
theorem dig_in {c : Int} (h : dig c = true) : 46 ≤ c ∧ c ≤ 57 := by
  unfold dig at h
  simp at h; omega
theorem lex_err {s : ByteArray} {at_ : Nat} {w w' : World} {c : Int} (hc : c ≠ 0) (hk : Kp (fun _ => False) w w') : LexPost s at_ w (.returned (.tuple #[.agg #[.int .i64 0, .string ⟨#[]⟩, .float .f64 0, .int .i64 0], .int .i64 0, .int .i64 c])) w' := ⟨⟨0, ⟨#[]⟩, 0, 0⟩, 0, c, rfl, fun e => absurd e hc, hk⟩
theorem lex_ok {s : ByteArray} {at_ : Nat} {w w' : World} (T : Tok) (to : Nat) (h1 : at_ < to) (h2 : to ≤ s.size) (h3 : T.t.size ≤ to - at_) (hk : Kp (fun _ => False) w w') : LexPost s at_ w (.returned (.tuple #[T.V, .int .i64 to, .int .i64 0])) w' := ⟨T, to, 0, rfl, fun _ => ⟨h1, h2, h3⟩, hk⟩
theorem lex_ok2 {s : ByteArray} {at_ : Nat} {w w' : World} (T : Tok) (to : Nat) (n : Int) (hn : n = to) (h1 : at_ < to) (h2 : to ≤ s.size) (h3 : T.t.size ≤ to - at_) (hk : Kp (fun _ => False) w w') : LexPost s at_ w (.returned (.tuple #[T.V, .int .i64 n, .int .i64 0])) w' := ⟨T, to, 0, by rw [hn], fun _ => ⟨h1, h2, h3⟩, hk⟩
theorem ext_size (s : ByteArray) (a k : Nat) (hk : k ≤ s.size) : (s.extract a k).size = k - a := by simp [ByteArray.size_extract]; omega
def signs15 : ByteArray := ⟨#[123, 125, 40, 41, 59, 44, 61, 60, 43, 45, 42, 47, 37, 38, 33]⟩
set_option maxHeartbeats 8000000 in
set_option maxRecDepth 100000 in
theorem next_any (s : ByteArray) (at_ : Nat) (hat : at_ < s.size) (hs : s.size ≤ 16384) (w : World) : Calls Try.prog 44 #[.string s, .int .i64 at_] w (LexPost s at_ w) := by
  have hsf := store_f
  have hr0 := heap_alloc_new w (.cells #[.int .i64 0, .string ⟨#[]⟩, .float .f64 0, .int .i64 0] 68)
  have hk0 := kp_alloc w (.cells #[.int .i64 0, .string ⟨#[]⟩, .float .f64 0, .int .i64 0] 68)
  have hrw : w.heap.size < (w.alloc (.cells #[.int .i64 0, .string ⟨#[]⟩, .float .f64 0, .int .i64 0] 68)).heap.size := by simp
  go_enter Try.func44, Try.ntmps44
  go_wp2_with (go_at_call 54; refine Calls.mono (letter_any _ _) ?_; rintro e w' ⟨⟨b, rfl⟩, rfl⟩; cases b)
  · cases hdg : dig (s[at_].toNat : Int)
    · cases h34 : ((s[at_].toNat : Int) == 34)
      · by_cases hi1 : at_ + 1 < s.size
        case' pos => cases h61b : ((s[at_ + 1].toNat : Int) == 61)
        all_goals cases h61 : ((s[at_].toNat : Int) == 61)
        all_goals go_wp2_with (go_at_call 55; refine Calls.mono (digit_dig _ _) ?_; rintro e w' ⟨rfl, rfl⟩)
        all_goals first
          | exact endq rfl (heap_alloc_new w _) rfl (lex_ok2 ⟨4, ⟨#[61, 61]⟩, 0, at_⟩ (at_ + 2) _ (by simp) (by omega) (by omega) (by show 2 ≤ _; omega) (kp_alloc w _))
          | skip
        all_goals
          go_loopw [12] (fun i wr => ∃ k : Nat, i = .int .i64 k ∧ k ≤ 15 ∧ wr = w.alloc (.cells #[.int .i64 0, .string ⟨#[]⟩, .float .f64 0, .int .i64 0] 68)) (fun i _ => 15 - (intOf i).toNat)
          case atStart => exact ⟨0, rfl, by omega, rfl⟩
          case round =>
            obtain ⟨k, rfl, hk15, rfl⟩ := hrel
            by_cases hlt : k < 15
            · have h15 : (⟨#[123, 125, 40, 41, 59, 44, 61, 60, 43, 45, 42, 47, 37, 38, 33]⟩ : ByteArray).size = 15 := rfl
              go_wp2_with fail
              all_goals first
                | exact ⟨⟨k + 1, by simp, by omega, trivial⟩, by simp [intOf]; omega⟩
                | exact endq rfl (heap_alloc_new w _) rfl (lex_ok2 ⟨4, (⟨#[123, 125, 40, 41, 59, 44, 61, 60, 43, 45, 42, 47, 37, 38, 33]⟩ : ByteArray).extract k (k + 1), 0, at_⟩ (at_ + 1) _ (by simp) (by omega) (by omega) (by rw [ext_size _ _ _ (by rw [h15]; omega)]; omega) (kp_alloc w _))
            · obtain rfl : k = 15 := by omega
              go_wp2_with fail
              exact endq rfl (heap_alloc_new w _) rfl (lex_err (c := 1800) (by decide) (kp_alloc w _))
      · go_wp2_with (first | (go_at_call 55; refine Calls.mono (digit_dig _ _) ?_; rintro e w' ⟨rfl, rfl⟩) | (go_at_call 57; refine Calls.mono (quoted_any s at_ hat (by omega) _) ?_; rintro e w3 ⟨T, to, c, rfl, hz, hk3⟩; have hr3 := row_on hr0 hk3 (fun e => e); obtain ⟨⟨p0, p1, p2, p3⟩, z0, z1, z2, z3⟩ := row4 hr3))
        exact endq rfl (sets4_row hr3) rfl ⟨T, to, c, rfl, hz, (hk0.trans hk3).own (kp_sets4 _ _ _ _ _ _) (Nat.le_refl _)⟩
    · have hd0 := dig_in hdg
      go_wp2_with (go_at_call 55; refine Calls.mono (digit_dig _ _) ?_; rintro e w' ⟨rfl, rfl⟩)
      go_loopw [8] (fun i wr => ∃ k : Nat, i = .int .i64 k ∧ at_ + 1 ≤ k ∧ k ≤ s.size ∧ wr = w.alloc (.cells #[.int .i64 0, .string ⟨#[]⟩, .float .f64 0, .int .i64 0] 68) ∧ LowR s at_ k) (fun i _ => s.size - (intOf i).toNat)
      case atStart => exact ⟨at_ + 1, by simp, Nat.le_refl _, by omega, rfl, LowR.next (fun j _ h1 h2 => by omega) hat hd0⟩
      case round =>
        obtain ⟨k, rfl, hk1, hk2, rfl, hlow⟩ := hrel
        by_cases hlt : k < s.size
        · cases hdk : dig (s[k].toNat : Int)
          · by_cases hk1' : k + 1 < s.size
            · cases h46 : ((s[k].toNat : Int) == 46)
              · go_wp2_with (first
                  | (go_at_call 55; refine Calls.mono (digit_dig _ _) ?_; rintro e w' ⟨rfl, rfl⟩)
                  | (go_at_call 56; refine Calls.mono (oftext_low (s.extract at_ k) (by rw [ext_size s at_ k hk2]; omega) (by rw [ext_size s at_ k hk2]; omega) (hlow.low hk2) _) ?_; rintro e w3 ⟨⟨x, c, rfl⟩, hk3⟩; have hr3 := row_on hr0 hk3 (fun e => e); obtain ⟨⟨p0, p1, p2, p3⟩, z0, z1, z2, z3⟩ := row4 hr3; have hrl3 := blk_lt hr3; cases hc : (c != 0))
                  | (go_at_call 54; refine Calls.mono (letter_any _ _) ?_; rintro e w' ⟨⟨b, rfl⟩, rfl⟩; cases b))
                all_goals first
                  | exact endq rfl (sets4_row hr3) rfl (lex_err (c := 1802) (by decide) ((hk0.trans hk3).own (kp_sets4 _ _ _ _ _ _) (Nat.le_refl _)))
                  | exact endq rfl (sets4_row hr3) rfl (lex_ok ⟨2, s.extract at_ k, x, at_⟩ k (by omega) hk2 (Nat.le_of_eq (ext_size s at_ k hk2)) ((hk0.trans hk3).own (kp_sets4 _ _ _ _ _ _) (Nat.le_refl _)))
              · cases hdk1 : dig (s[k + 1].toNat : Int)
                · go_wp2_with (first
                    | (go_at_call 55; refine Calls.mono (digit_dig _ _) ?_; rintro e w' ⟨rfl, rfl⟩)
                    | (go_at_call 56; refine Calls.mono (oftext_low (s.extract at_ k) (by rw [ext_size s at_ k hk2]; omega) (by rw [ext_size s at_ k hk2]; omega) (hlow.low hk2) _) ?_; rintro e w3 ⟨⟨x, c, rfl⟩, hk3⟩; have hr3 := row_on hr0 hk3 (fun e => e); obtain ⟨⟨p0, p1, p2, p3⟩, z0, z1, z2, z3⟩ := row4 hr3; have hrl3 := blk_lt hr3; cases hc : (c != 0))
                    | (go_at_call 54; refine Calls.mono (letter_any _ _) ?_; rintro e w' ⟨⟨b, rfl⟩, rfl⟩; cases b))
                  all_goals first
                    | exact endq rfl (sets4_row hr3) rfl (lex_err (c := 1802) (by decide) ((hk0.trans hk3).own (kp_sets4 _ _ _ _ _ _) (Nat.le_refl _)))
                    | exact endq rfl (sets4_row hr3) rfl (lex_ok ⟨2, s.extract at_ k, x, at_⟩ k (by omega) hk2 (Nat.le_of_eq (ext_size s at_ k hk2)) ((hk0.trans hk3).own (kp_sets4 _ _ _ _ _ _) (Nat.le_refl _)))
                · have hl1 : LowR s at_ (k + 1) := hlow.next hlt (by simp at h46; omega)
                  go_wp2_with (go_at_call 55; refine Calls.mono (digit_dig _ _) ?_; rintro e w' ⟨rfl, rfl⟩)
                  go_loopw [8] (fun i wr => ∃ k : Nat, i = .int .i64 k ∧ at_ + 1 ≤ k ∧ k ≤ s.size ∧ wr = w.alloc (.cells #[.int .i64 0, .string ⟨#[]⟩, .float .f64 0, .int .i64 0] 68) ∧ LowR s at_ k) (fun i _ => s.size - (intOf i).toNat)
                  case atStart => exact ⟨k + 1, by simp, by omega, by omega, rfl, hl1⟩
                  case round =>
                    clear hl1 hlow
                    obtain ⟨k3, rfl, hk1, hk2, rfl, hlow⟩ := hrel
                    by_cases hlt : k3 < s.size
                    · cases hdk : dig (s[k3].toNat : Int)
                      · go_wp2_with (first
                          | (go_at_call 55; refine Calls.mono (digit_dig _ _) ?_; rintro e w' ⟨rfl, rfl⟩)
                          | (go_at_call 56; refine Calls.mono (oftext_low (s.extract at_ k3) (by rw [ext_size s at_ k3 hk2]; omega) (by rw [ext_size s at_ k3 hk2]; omega) (hlow.low hk2) _) ?_; rintro e w3 ⟨⟨x, c, rfl⟩, hk3⟩; have hr3 := row_on hr0 hk3 (fun e => e); obtain ⟨⟨p0, p1, p2, p3⟩, z0, z1, z2, z3⟩ := row4 hr3; have hrl3 := blk_lt hr3; cases hc : (c != 0))
                          | (go_at_call 54; refine Calls.mono (letter_any _ _) ?_; rintro e w' ⟨⟨b, rfl⟩, rfl⟩; cases b))
                        all_goals first
                          | exact endq rfl (sets4_row hr3) rfl (lex_err (c := 1802) (by decide) ((hk0.trans hk3).own (kp_sets4 _ _ _ _ _ _) (Nat.le_refl _)))
                          | exact endq rfl (sets4_row hr3) rfl (lex_ok ⟨2, s.extract at_ k3, x, at_⟩ k3 (by omega) hk2 (Nat.le_of_eq (ext_size s at_ k3 hk2)) ((hk0.trans hk3).own (kp_sets4 _ _ _ _ _ _) (Nat.le_refl _)))
                      · go_wp2_with (go_at_call 55; refine Calls.mono (digit_dig _ _) ?_; rintro e w' ⟨rfl, rfl⟩)
                        exact ⟨⟨k3 + 1, by simp, by omega, by omega, trivial, hlow.next hlt (dig_in hdk)⟩, by simp [intOf]; omega⟩
                    · obtain rfl : k3 = s.size := by omega
                      go_wp2_with (first
                        | (go_at_call 56; refine Calls.mono (oftext_low (s.extract at_ s.size) (by rw [ext_size s at_ s.size hk2]; omega) (by rw [ext_size s at_ s.size hk2]; omega) (hlow.low hk2) _) ?_; rintro e w3 ⟨⟨x, c, rfl⟩, hk3⟩; have hr3 := row_on hr0 hk3 (fun e => e); obtain ⟨⟨p0, p1, p2, p3⟩, z0, z1, z2, z3⟩ := row4 hr3; have hrl3 := blk_lt hr3; cases hc : (c != 0))
                        | (go_at_call 54; refine Calls.mono (letter_any _ _) ?_; rintro e w' ⟨⟨b, rfl⟩, rfl⟩; cases b))
                      all_goals first
                        | exact endq rfl (sets4_row hr3) rfl (lex_err (c := 1802) (by decide) ((hk0.trans hk3).own (kp_sets4 _ _ _ _ _ _) (Nat.le_refl _)))
                        | exact endq rfl (sets4_row hr3) rfl (lex_ok ⟨2, s.extract at_ s.size, x, at_⟩ s.size (by omega) hk2 (Nat.le_of_eq (ext_size s at_ s.size hk2)) ((hk0.trans hk3).own (kp_sets4 _ _ _ _ _ _) (Nat.le_refl _)))
            · go_wp2_with (first
                | (go_at_call 55; refine Calls.mono (digit_dig _ _) ?_; rintro e w' ⟨rfl, rfl⟩)
                | (go_at_call 56; refine Calls.mono (oftext_low (s.extract at_ k) (by rw [ext_size s at_ k hk2]; omega) (by rw [ext_size s at_ k hk2]; omega) (hlow.low hk2) _) ?_; rintro e w3 ⟨⟨x, c, rfl⟩, hk3⟩; have hr3 := row_on hr0 hk3 (fun e => e); obtain ⟨⟨p0, p1, p2, p3⟩, z0, z1, z2, z3⟩ := row4 hr3; have hrl3 := blk_lt hr3; cases hc : (c != 0))
                | (go_at_call 54; refine Calls.mono (letter_any _ _) ?_; rintro e w' ⟨⟨b, rfl⟩, rfl⟩; cases b))
              all_goals first
                | exact endq rfl (sets4_row hr3) rfl (lex_err (c := 1802) (by decide) ((hk0.trans hk3).own (kp_sets4 _ _ _ _ _ _) (Nat.le_refl _)))
                | exact endq rfl (sets4_row hr3) rfl (lex_ok ⟨2, s.extract at_ k, x, at_⟩ k (by omega) hk2 (Nat.le_of_eq (ext_size s at_ k hk2)) ((hk0.trans hk3).own (kp_sets4 _ _ _ _ _ _) (Nat.le_refl _)))
          · go_wp2_with (go_at_call 55; refine Calls.mono (digit_dig _ _) ?_; rintro e w' ⟨rfl, rfl⟩)
            exact ⟨⟨k + 1, by simp, by omega, by omega, trivial, hlow.next hlt (dig_in hdk)⟩, by simp [intOf]; omega⟩
        · obtain rfl : k = s.size := by omega
          go_wp2_with (first
            | (go_at_call 56; refine Calls.mono (oftext_low (s.extract at_ s.size) (by rw [ext_size s at_ s.size hk2]; omega) (by rw [ext_size s at_ s.size hk2]; omega) (hlow.low hk2) _) ?_; rintro e w3 ⟨⟨x, c, rfl⟩, hk3⟩; have hr3 := row_on hr0 hk3 (fun e => e); obtain ⟨⟨p0, p1, p2, p3⟩, z0, z1, z2, z3⟩ := row4 hr3; have hrl3 := blk_lt hr3; cases hc : (c != 0))
            | (go_at_call 54; refine Calls.mono (letter_any _ _) ?_; rintro e w' ⟨⟨b, rfl⟩, rfl⟩; cases b))
          all_goals first
            | exact endq rfl (sets4_row hr3) rfl (lex_err (c := 1802) (by decide) ((hk0.trans hk3).own (kp_sets4 _ _ _ _ _ _) (Nat.le_refl _)))
            | exact endq rfl (sets4_row hr3) rfl (lex_ok ⟨2, s.extract at_ s.size, x, at_⟩ s.size (by omega) hk2 (Nat.le_of_eq (ext_size s at_ s.size hk2)) ((hk0.trans hk3).own (kp_sets4 _ _ _ _ _ _) (Nat.le_refl _)))
  · go_loopw [8] (fun i wr => ∃ k : Nat, i = .int .i64 k ∧ at_ + 1 ≤ k ∧ k ≤ s.size ∧ wr = w.alloc (.cells #[.int .i64 0, .string ⟨#[]⟩, .float .f64 0, .int .i64 0] 68)) (fun i _ => s.size - (intOf i).toNat)
    case atStart => exact ⟨at_ + 1, by simp, Nat.le_refl _, by omega, rfl⟩
    case round =>
      obtain ⟨k, rfl, hk1, hk2, rfl⟩ := hrel
      by_cases hlt : k < s.size
      · go_wp2_with (first
          | (go_at_call 54; refine Calls.mono (letter_any _ _) ?_; rintro e w' ⟨⟨b, rfl⟩, rfl⟩; cases b)
          | (go_at_call 55; refine Calls.mono (digit_dig _ _) ?_; rintro e w' ⟨rfl, rfl⟩; generalize hdg : dig _ = β; cases β))
        all_goals first
          | exact ⟨⟨k + 1, by simp, by omega, by omega, trivial⟩, by simp [intOf]; omega⟩
          | exact endq rfl (heap_alloc_new w _) rfl (lex_err (c := 1800) (by decide) (kp_alloc w _))
          | exact endq rfl (heap_alloc_new w _) rfl (lex_ok ⟨1, s.extract at_ k, 0, at_⟩ k (by omega) hk2 (Nat.le_of_eq (ext_size s at_ k hk2)) (kp_alloc w _))
      · obtain rfl : k = s.size := by omega
        go_wp2_with fail
        all_goals first
          | exact endq rfl (heap_alloc_new w _) rfl (lex_err (c := 1800) (by decide) (kp_alloc w _))
          | exact endq rfl (heap_alloc_new w _) rfl (lex_ok ⟨1, s.extract at_ s.size, 0, at_⟩ s.size (by omega) hk2 (Nat.le_of_eq (ext_size s at_ s.size hk2)) (kp_alloc w _))
end Go.Proofs.Ytfkgfibmhhlemaa
namespace Go.Proofs.Ytfkgfibmhhlemaa
open Go.RowKit Go.Maps Go.WideMaps
theorem info68 : (Try.prog.info? 68).map (fun i => (i.zero, i.size, i.bytes)) = some (some (.agg #[.int .i64 0, .string ⟨#[]⟩, .float .f64 0, .int .i64 0]), 4, 40) := by kernel_rfl
theorem news4t (w : World) (k : Nat) (hk : k = w.heap.size) (a b c d : Value) : ∀ j u, [a, b, c, d][j]? = some u → (w.alloc (.cells #[a, b, c, d] 68)).cell? ((⟨k, 0, none⟩ : Addr).add j) = some u := by
  subst hk
  intro j u h
  have e : (⟨w.heap.size, 0, none⟩ : Addr).add j = ⟨w.heap.size, j, none⟩ := by simp [Addr.add]; exact Eq.symm
  rw [e, World.cell?_alloc_new]
  simpa using h
abbrev tc (T : Tok) : List Value := [.int .i64 T.k, .string T.t, .float .f64 T.x, .int .i64 T.a]
def tcs (ts : List Tok) : List Value := ts.flatMap tc
def twt (ts : List Tok) : Nat := (ts.map fun T => 1 + T.t.size).sum
/-- tokens under way -/
structure TI (w : World) (v : Value) (ts : List Tok) (wr : World) : Prop where
  own : wr.ownsRow w.heap.size 68 4 v ts.length (tcs ts)
  kp : Kp (fun _ => False) w wr
theorem TI.push {w wr w1 w2 : World} {v v1 : Value} {ts : List Tok} {o o' : Obj} (h : TI w v ts wr) (h1 : Kp (fun _ => False) wr w1) (T : Tok) (ho : w2.ownsRow w.heap.size 68 4 v1 (ts.length + 1) (tcs ts ++ tc T)) (hg : ((w1.alloc o).alloc o').grownBy w2 v.ownBlock) : TI w v1 (ts ++ [T]) w2 := by
  have hs := h.kp.size
  have hs1 := h1.size
  have hsz := hg.size
  rw [World.size_alloc, World.size_alloc] at hsz
  refine ⟨by rw [List.length_append]; unfold tcs; rw [List.flatMap_append]; simpa [tcs] using ho, ⟨hg.os.trans (h1.os.trans h.kp.os), hg.tape.trans (h1.tape.trans h.kp.tape), hg.output.trans (h1.output.trans h.kp.output), by omega, fun k hk _ => ?_⟩⟩
  refine (hg.block k (by rw [World.size_alloc, World.size_alloc]; omega) fun e => ?_).trans ((heap_alloc_old _ _ (by rw [World.size_alloc]; omega)).trans ((heap_alloc_old w1 _ (by omega)).trans ((h1.block k (by omega) fun e => e).trans (h.kp.block k hk fun e => e))))
  have := (h.own.lt k e.symm).1
  omega
theorem TI.push1 {w wr w2 : World} {v v1 : Value} {ts : List Tok} {o : Obj} (h : TI w v ts wr) (T : Tok) (ho : w2.ownsRow w.heap.size 68 4 v1 (ts.length + 1) (tcs ts ++ tc T)) (hg : (wr.alloc o).grownBy w2 v.ownBlock) : TI w v1 (ts ++ [T]) w2 := by
  have hs := h.kp.size
  have hsz := hg.size
  rw [World.size_alloc] at hsz
  refine ⟨by rw [List.length_append]; unfold tcs; rw [List.flatMap_append]; simpa [tcs] using ho, ⟨hg.os.trans h.kp.os, hg.tape.trans h.kp.tape, hg.output.trans h.kp.output, by omega, fun k hk _ => ?_⟩⟩
  refine (hg.block k (by rw [World.size_alloc]; omega) fun e => ?_).trans ((heap_alloc_old wr _ (by omega)).trans (h.kp.block k hk fun e => e))
  have := (h.own.lt k e.symm).1
  omega
theorem TI.on {w wr w1 : World} {v : Value} {ts : List Tok} (h : TI w v ts wr) (h1 : Kp (fun _ => False) wr w1) : TI w v ts w1 :=
  ⟨own_heap h.own (Nat.le_refl _) fun k hk => h1.block k (h.own.lt k hk).2 fun e => e, h.kp.trans h1⟩
theorem TI.slice {w wr : World} {v : Value} {ts : List Tok} (h : TI w v ts wr) : ∃ a c, v = .slice a ts.length c := by
  rcases h.own.2 with ⟨e, h0⟩ | ⟨g, cap, cur, e, _⟩
  · exact ⟨none, 0, by rw [e, h0]⟩
  · exact ⟨_, _, e⟩
theorem twt_append (ts : List Tok) (T : Tok) : twt (ts ++ [T]) = twt ts + (1 + T.t.size) := by simp [twt]
def ScanPost (w : World) (e : Ending) (w' : World) : Prop := ∃ v ts a c, e = .returned (.tuple #[v, .int .i64 a, .int .i64 c]) ∧ TI w v ts w' ∧ ts.length ≤ 16385 ∧ twt ts ≤ 32769
set_option maxHeartbeats 4000000 in
set_option maxRecDepth 100000 in
theorem scan_any (s : ByteArray) (w : World) : Calls Try.prog 30 #[.string s] w (ScanPost w) := by
  obtain ⟨i0, hi0, hz0, hz1, hz2⟩ := info_parts info68
  have hsf := store_f
  have h0 : TI w (.slice none 0 0) [] w := ⟨World.ownsRow_nil _ _ _ _, kp_refl _ _⟩
  cases hl : decide ((16384 : Int) < (s.size : Int))
  · have hs : s.size ≤ 16384 := by simp at hl; omega
    go_enter Try.func30, Try.ntmps30
    go_wp2_with (go_at_call 43; refine Calls.mono (blanks_any s 0 (Nat.zero_le _) (by omega) _) ?_; rintro e w1 ⟨⟨a0, rfl, ha1, ha2⟩, rfl⟩)
    go_loopw [5, 6] (fun v i wr => ∃ (k : Nat) (ts : List Tok), i = .int .i64 k ∧ TI w1 v ts wr ∧ k ≤ s.size ∧ ts.length ≤ k ∧ twt ts ≤ 2 * k) (fun _ i _ => s.size - (intOf i).toNat)
    case atStart => exact ⟨a0, [], rfl, h0, ha2, Nat.zero_le _, Nat.zero_le _⟩
    case round =>
      obtain ⟨k, ts, rfl, hT, hk, hn, hw⟩ := hrel
      clear h0
      obtain ⟨av, cv, hv⟩ := hT.slice
      subst hv
      by_cases hlt : k < s.size
      · go_wp2_with (first
          | (go_at_call 44; refine Calls.mono (next_any s k hlt hs _) ?_; rintro e w3 ⟨T, to, c, rfl, hz, hk3⟩; have hT3 := hT.on hk3; cases hc : (c != 0))
          | (at_builtin; refine wpList_own rfl (.tmp 31) (.tmp 33) 64 rfl w1.heap.size 68 i0 _ 4 40 Try.underlying64 hi0 hz0 hz1 hz2 rfl (by decide) _ ts.length (tcs ts) rfl ((hT3.own.alloc _).alloc _) ⟨w3.heap.size + 1, 0, none⟩ 1 (tc T) rfl rfl (by exact news4t _ _ (by simp) _ _ _ _) (by intro u hu; simp at hu; rcases hu with rfl | rfl | rfl | rfl <;> rfl) (by unfold maxLen; omega) (by omega) (by have := hT3.kp.size; simp; omega) ?_; intro v1 w4 hown1 hgrow1 hfr1; have hz' := hz (by simpa using hc); have hT4 := hT3.push (kp_refl _ _) T hown1 hgrow1; clear hown1 hgrow1 hfr1)
          | (go_at_call 43; refine Calls.mono (blanks_any s to hz'.2.1 (by omega) _) ?_; rintro e w5 ⟨⟨a5, rfl, ha51, ha52⟩, rfl⟩))
        · exact ⟨⟨a5, ts ++ [T], rfl, hT4, ha52, by rw [List.length_append]; simp only [List.length_cons, List.length_nil]; omega, by rw [twt_append]; omega⟩, by simp [intOf]; omega⟩
        · go_ret3
          exact ⟨_, ts, _, _, rfl, hT3.on (kp_alloc w3 _), by omega, by omega⟩
      · obtain rfl : k = s.size := by omega
        go_wp2_with (at_builtin; refine wpList_own rfl (.tmp 38) (.tmp 42) 64 rfl w1.heap.size 68 i0 _ 4 40 Try.underlying64 hi0 hz0 hz1 hz2 rfl (by decide) _ ts.length (tcs ts) rfl (hT.own.alloc _) ⟨wr.heap.size, 0, none⟩ 1 (tc ⟨0, ⟨#[]⟩, 0, s.size⟩) rfl rfl (by exact news4t _ _ rfl _ _ _ _) (by intro u hu; simp at hu; rcases hu with rfl | rfl | rfl | rfl <;> rfl) (by unfold maxLen; omega) (by omega) (by have := hT.kp.size; simp; omega) ?_; intro v1 w4 hown1 hgrow1 hfr1; have hT4 := hT.push1 ⟨0, ⟨#[]⟩, 0, s.size⟩ hown1 hgrow1; clear hown1 hgrow1 hfr1)
        go_ret3
        exact ⟨v1, _, _, _, rfl, hT4, by rw [List.length_append]; simp only [List.length_cons, List.length_nil]; omega, by rw [twt_append]; have ez : (⟨#[]⟩ : ByteArray).size = 0 := rfl; simp only [ez]; omega⟩
  · go_enter Try.func30, Try.ntmps30
    go_wp2_with fail
    go_ret3
    exact ⟨_, _, _, _, rfl, h0, by simp, by simp [twt]⟩
end Go.Proofs.Ytfkgfibmhhlemaa
namespace Go.Proofs.Ytfkgfibmhhlemaa
open Go.RowKit Go.Maps Go.WideMaps
theorem tcs_at : ∀ (ts : List Tok) (j : Nat) (h : j < ts.length) (m : Nat), m < 4 → (tcs ts)[j * 4 + m]? = (tc ts[j])[m]?
  | [], j, h, _, _ => absurd h (Nat.not_lt_zero _)
  | T :: r, 0, _, m, hm => by
    unfold tcs
    rw [List.flatMap_cons, Nat.zero_mul, Nat.zero_add, List.getElem?_append_left (by simpa using hm)]
    rfl
  | T :: r, j + 1, h, m, hm => by
    have ih := tcs_at r j (by simpa using h) m hm
    unfold tcs at ih ⊢
    rw [List.flatMap_cons, List.getElem?_append_right (by simp; omega)]
    rw [show (j + 1) * 4 + m - (tc T).length = j * 4 + m by simp; omega]
    simpa using ih
theorem own_cell4 {w : World} {B g n c : Nat} {xs : List Value} (h : w.ownsRow B 68 4 (.slice (some ⟨g, 0, none⟩) n c) n xs) {i : Nat} {v : Value} (hi : xs[i]? = some v) : w.cell? ⟨g, i, none⟩ = some v := by
  have := h.cells (g := g) rfl i v hi
  rw [show (⟨g, 0, none⟩ : Addr).add i = ⟨g, i, none⟩ by cases i <;> simp [Addr.add]] at this
  exact this
/-- what a parser begins with -/
def BegunPost (w : World) (e : Ending) (w' : World) : Prop := ∃ E : Env, e = .returned (pt E.pb 0) ∧ St E w' 0 0 ∧ Kp (fun _ => False) w w' ∧ w.heap.size ≤ E.pb ∧ w'.heap.size ≤ E.pb + 1 ∧ tws E E.ts.length ≤ 32769
set_option maxHeartbeats 1600000 in
theorem begun_any (s : ByteArray) (w : World) : Calls Try.prog 23 #[.string s] w (BegunPost w) := by
  have hfin : ∀ v ts a c w1, TI w v ts w1 → ts.length ≤ 16385 → twt ts ≤ 32769 → BegunPost w (.returned (pt w1.heap.size 0)) (w1.alloc (.cells #[v, .int .i64 0, .int .i64 a, .int .i64 c, .int .i64 0, .int .i64 0, .int .i64 0] 66)) := by
    intro v ts a c w1 hT hn hw
    obtain ⟨ao, cap, hv⟩ := hT.slice
    have hle : ts.length ≤ cap := by
      rcases hT.own.2 with ⟨e, h0⟩ | ⟨g, cap', cur, e, _, _, hnc, _⟩
      · rw [h0]; exact Nat.zero_le _
      · rw [hv] at e; injection e with _ _ e; rw [e]; exact hnc
    refine ⟨⟨ts, ao, cap, w1.heap.size⟩, rfl, ⟨⟨hle, by show ts.length ≤ 65536; omega⟩, ⟨a, c, 0, 0, ?_⟩, fun j hj => ?_, Nat.zero_le _⟩, hT.kp.alloc _, hT.kp.size, by simp, ?_⟩
    · rw [hv]; exact heap_alloc_new w1 _
    · rcases hT.own.2 with ⟨e, h0⟩ | ⟨g, cap', cur, e, hB, hg, _⟩
      · simp only at hj; omega
      · have hv2 := hv
        rw [e] at hv2
        injection hv2 with e1 _ e2
        subst e1; subst e2
        have hlt := (Array.getElem?_eq_some_iff.1 hg).1
        have hown := hT.own
        rw [hv] at hown
        have hold : (w1.alloc (.cells #[v, .int .i64 0, .int .i64 a, .int .i64 c, .int .i64 0, .int .i64 0, .int .i64 0] 66)).heap[g]? = w1.heap[g]? := heap_alloc_old w1 _ hlt
        have hat := tcs_at ts j hj
        have q0 := own_cell4 hown (hat 0 (by decide))
        have q1 := own_cell4 hown (hat 1 (by decide))
        have q2 := own_cell4 hown (hat 2 (by decide))
        have q3 := own_cell4 hown (hat 3 (by decide))
        refine ⟨g, 0, rfl, by show g ≠ w1.heap.size; omega, ?_, ?_, ?_, ?_⟩
        · rw [World.cell?_of_block hold, Nat.zero_add]; exact q0
        · rw [World.cell?_of_block hold, Nat.zero_add]; exact q1
        · rw [World.cell?_of_block hold, Nat.zero_add]; exact q2
        · rw [World.cell?_of_block hold, Nat.zero_add]; exact q3
    · unfold tws
      simp only [List.take_length]
      exact hw
  go_enter Try.func23, Try.ntmps23
  go_wp2_with (go_at_call 30; refine Calls.mono (scan_any s _) ?_; rintro e w1 ⟨v, ts, a, c, rfl, hT, hn, hw⟩; obtain ⟨ao, cap, hv⟩ := hT.slice; subst hv)
  go_ret
  exact hfin _ ts a c w1 hT hn hw
theorem endS {fn : Func} (hr : fn.results = #[.cell 2 25, .tmp 3, .tmp 4]) {W : World} {g : Nat} {cs : Array Value} {Q : Ending → World → Prop} {tmps : Array Value} (hh : W.heap[g]? = some (.cells cs 25)) (ht : tmps.getD 2 undef = .pointer (some ⟨g, 0, none⟩)) (hQ : Q (.returned (.tuple #[.agg cs, tmps.getD 3 undef, tmps.getD 4 undef])) W) (hcs : cs.size = 5 := by rfl) : bodyPost Try.prog fn Q .ret { tmps := tmps, defers := [] } W := by
  refine bodyPost_ret ?_ rfl hQ
  have hp' : tmps[2]?.getD undef = .pointer (some ⟨g, 0, none⟩) := by simpa using ht
  simp [results, hr, hp', asAddr, run_loadVar_row W g 25 25 cs (0, 0) _ hh Try.underlying25 rfl (by rw [size25s, hcs])]
/-- the head of the script's loop: the statements at bx -/
structure SInv (E : Env) (w : World) (bx : Nat) (i' : Nat) (c' : Int) (m : Nat) (v : Value) (ks : List Nd) (wr : World) : Prop where
  row : wr.heap[bx]? = some (.cells #[.int .i64 8, .string ⟨#[]⟩, .float .f64 0, v, .int .i64 0] 25)
  kids : Kids w bx wr v m ks
  st : St E wr i' c'
  ke : Ke E w wr
  z : c' = 0 → m ≤ i' ∧ wtL ks ≤ tws E i'
  far : E.pb < w.heap.size ∧ w.heap.size ≤ bx
section
variable {E : Env} {w : World} {bx : Nat} {i' : Nat} {c' : Int} {m : Nat} {v : Value} {ks : List Nd} {wr w' : World}
theorem SInv.on (h : SInv E w bx i' c' m v ks wr) (hk : Ke E wr w') {c2 : Int} (hs : St E w' i' c2) (hc : c2 = 0 → c' = 0) : SInv E w bx i' c2 m v ks w' := by
  have hf := h.far
  exact ⟨row_on h.row hk (by omega), h.kids.on (fun k h1 h2 h3 => hk.block k h2 (by omega)) hk.size, hs, h.ke.trans hk, fun e => h.z (hc e), hf⟩
theorem SInv.push {w5 w7 w8 : World} {o : Obj} {i2 : Nat} {c3 : Int} {nd : Nd} {v' : Value} (h : SInv E w bx i' c' m v ks w5) {j0 : Nat} {cj : Int} (h0 : St E w j0 cj) (hK : Ke E w5 w7) (hst : St E w7 i2 c3) (hz : c3 = 0 → c' = 0 ∧ i' < i2 ∧ nd.wt + tws E i' ≤ tws E i2)
    (hk8 : Kids w bx w8 v' (m + 1) (ks ++ [nd])) (hg : (w7.alloc o).grownBy w8 v.ownBlock) (hrow : w8.heap[bx]? = some (.cells #[.int .i64 8, .string ⟨#[]⟩, .float .f64 0, v, .int .i64 0] 25)) : SInv E w bx i2 c3 (m + 1) v' (ks ++ [nd]) (w8.setCell ⟨bx, 3, none⟩ v') := by
  have hf := h.far
  have hfar : Kp (fun k => w.heap.size ≤ k) w7 (w8.setCell ⟨bx, 3, none⟩ v') := by
    refine ⟨hg.os, hg.tape, hg.output, ?_, fun k hk1 hn => ?_⟩
    · have := hg.size
      rw [World.size_alloc] at this
      rw [sc_size]; omega
    · refine (set_far (by omega) _ _).trans ((hg.block k (by rw [World.size_alloc]; omega) fun e => ?_).trans (heap_alloc_old w7 _ hk1))
      exact hn (Nat.le_of_lt (h.kids.far k e.symm).1)
  have hE0 := h.ke.trans hK
  have hE : Ke E w (w8.setCell ⟨bx, 3, none⟩ v') := ⟨hfar.os.trans hE0.os, hfar.tape.trans hE0.tape, hfar.output.trans hE0.output, Nat.le_trans hE0.size hfar.size, fun k hk hn => (hfar.block k (Nat.lt_of_lt_of_le hk hE0.size) (by omega)).trans (hE0.block k hk hn)⟩
  refine ⟨set_blk hrow 3 _, hk8.on (fun k _ _ hn => set_far hn _ _) (by rw [sc_size]; exact Nat.le_refl _), h0.low hst fun k hk => hfar.block k (Nat.lt_of_lt_of_le hk hE0.size) (by omega), hE, fun e => ?_, hf⟩
  obtain ⟨h5, h3, h4⟩ := hz e
  obtain ⟨h1, h2⟩ := h.z h5
  rw [wtL_append]
  exact ⟨by omega, by omega⟩
end
/-- a script read: a tree, or a fault -/
def ReadPost (w : World) (e : Ending) (w' : World) : Prop := Kp (fun _ => False) w w' ∧ ((∃ b c : Int, c ≠ 0 ∧ e = .returned (.tuple #[.agg row0, .int .i64 b, .int .i64 c])) ∨ ∃ nd V, e = .returned (.tuple #[V, .int .i64 0, .int .i64 0]) ∧ NodeAt (New w w') w' nd V ∧ nd.ok ∧ nd.wt ≤ 32770)
theorem field_k (T : Tok) (w : World) : (Instr.field 68 T.V 0).run Try.prog w = .ok (.int .i64 T.k) w := by kernel_rfl
set_option maxHeartbeats 8000000 in
set_option maxRecDepth 100000 in
theorem read_any (s : ByteArray) (w : World) : Calls Try.prog 15 #[.string s] w (ReadPost w) := by
  have hsf := store_f
  have hfd := field_k
  obtain ⟨i0, hi0', hz0, hz1, hz2⟩ := info_parts info25
  have hR := heap_alloc_new w (.cells row0 25)
  go_enter Try.func15, Try.ntmps15
  go_wp2_with (go_at_call 23; refine Calls.mono (begun_any s _) ?_; rintro e w1 ⟨E, rfl, hst, hK, hpb, hw1, htw⟩; replace hR := row_on hR hK (fun e => e))
  have hfew := hst.ok.few
  have hk1 : Kp (fun _ => False) w w1 := (kp_alloc w _).trans hK
  have hpb' : w.heap.size + 1 ≤ E.pb := by rw [World.size_alloc] at hpb; exact hpb
  have hg : w.heap.size ≠ E.pb := by omega
  have hA0 : SInv E w1 w1.heap.size 0 0 0 (.slice none 0 0) [] (w1.alloc (.cells #[.int .i64 8, .string ⟨#[]⟩, .float .f64 0, .slice none 0 0, .int .i64 0] 25)) :=
    ⟨heap_alloc_new w1 _, ⟨⟨[], rfl, World.ownsRow_nil _ _ _ _, fun j hj => absurd hj (Nat.not_lt_zero _)⟩, rfl, fun g e => by simp [Value.ownBlock] at e, trivial⟩, hst.alloc _, (kp_alloc w1 _).weak, fun _ => ⟨Nat.le_refl _, by simp [wtL]⟩, hst.lt, Nat.le_refl _⟩
  go_loopw [11] (fun _ wr => ∃ i' c' m v ks, SInv E w1 w1.heap.size i' c' m v ks wr) (fun _ wr => left2 E wr)
  case atStart => exact ⟨_, _, _, _, _, hA0⟩
  case round =>
    clear hA0
    obtain ⟨i', c', m, v, ks, hA⟩ := hrel
    have hfar := hA.far
    obtain ⟨a0, l, b0, d, hblk⟩ := hA.st.blk
    have c4 := cell_of hblk 4 (.int .i64 c') rfl
    have c5 := cell_of hblk 5 (.int .i64 b0) rfl
    by_cases hc0 : c' = 0
    · subst hc0
      have hmz := (hA.z rfl).1
      clear hblk c5
      cases hkind : ((tk E i' 0).k != 0)
      · go_wp2_with (go_at_call 24; refine Calls.mono hA.st.look.t ?_; rintro e w5 ⟨rfl, hL, hK5⟩; obtain ⟨c2, hsm, hst2⟩ := hL.st; have hB := hA.on hK5 hst2 hsm.zero; obtain ⟨a0, l, b0, d, hblk⟩ := hst2.blk; have c4 := cell_of hblk 4 (.int .i64 c2) rfl; have c5 := cell_of hblk 5 (.int .i64 b0) rfl; clear hblk; have hR5 := row_on (row_on hR hA.ke hg) hK5 hg; obtain ⟨⟨r0, r1, r2, r3, r4⟩, y0, y1, y2, y3, y4⟩ := row5 hR5; obtain ⟨aow, capw, hv⟩ := hB.kids.slice; subst hv; obtain ⟨⟨b0', b1', b2', b3', b4'⟩, _, _, _, _, _⟩ := row5 hB.row; cases hc2 : (c2 != 0))
        · obtain rfl : c2 = 0 := by simpa using hc2
          have hk5 := kp_sets5 w5 w.heap.size (.int .i64 8) (.string ⟨#[]⟩) (.float .f64 0) (.slice aow m capw) (.int .i64 0)
          have hkids := hB.kids.on (w1 := sets5 w5 w.heap.size (.int .i64 8) (.string ⟨#[]⟩) (.float .f64 0) (.slice aow m capw) (.int .i64 0)) (fun j h1 h2 h3 => hk5.block j h2 (by have := hk1.size; omega)) hk5.size
          have hn := (hkids.node 8 ⟨#[]⟩ 0 0).weak (R' := New w (sets5 w5 w.heap.size (.int .i64 8) (.string ⟨#[]⟩) (.float .f64 0) (.slice aow m capw) (.int .i64 0))) fun j hj => ⟨Nat.le_trans hk1.size hj.1, hj.2⟩
          have hle := tws_le E hB.st.len
          have hz := (hB.z rfl).2
          exact endS rfl (sets5_row hR5) rfl ⟨(hk1.own hB.ke (by omega)).own hk5 (Nat.le_refl _), .inr ⟨_, _, rfl, hn, ⟨by decide, hB.kids.ok⟩, by
            have ez : (⟨#[]⟩ : ByteArray).size = 0 := rfl
            simp only [Nd.wt, ez]; omega⟩⟩
        · have hcn : c2 ≠ 0 := by simpa using hc2
          have hBl := hB.st.lt
          go_region
          all_goals
            go_wp2_with fail
            exact endS rfl (sets5_row (w := w5.drew) hR5) rfl ⟨((hk1.own hB.ke (by omega)).drewO).own (kp_sets5 _ _ _ _ _ _ _) (Nat.le_refl _), .inl ⟨_, _, hcn, rfl⟩⟩
      · go_wp2_with (go_at_call 24; refine Calls.mono hA.st.look.t ?_; rintro e w5 ⟨rfl, hL, hK5⟩; obtain ⟨c2, hsm, hst2⟩ := hL.st; have hB := hA.on hK5 hst2 hsm.zero)
        obtain ⟨ao, capv, hv⟩ := hB.kids.slice
        subst hv
        obtain ⟨⟨b0', b1', b2', b3', b4'⟩, s0, s1, s2, s3, s4⟩ := row5 hB.row
        obtain ⟨L, hL1, hL2, hL3⟩ := hB.kids.own
        have hcall := (pstmt_any E i').at (hB.st.drew.look)
        have hbl := blk_lt hB.row
        have hil := hB.st.len
        have hfw : w1.heap.size < w5.heap.size := hbl
        go_region_law (first
          | (refine step_call rfl 25 #[pt E.pb 0] (by go_simp) _ hcall ?_; rintro e w7 ⟨nd, k, t, x, ao2, n2, cp2, a, i2, c3, rfl, hnd, hok, hst3, hK3, hi3, hz3⟩; refine ⟨_, rfl, ?_⟩; have hB7 := row_on (w := w5.drew) hB.row hK3 (by omega); obtain ⟨⟨g0, g1, g2, g3, g4⟩, y0, y1, y2, y3, y4⟩ := row5 hB7; have hs7 := hK3.size; have hown7 := own_heap hL2 (Nat.le_refl _) (fun j hj => hK3.block j (own_lt hB.kids hj) (by have := (hB.kids.far j hj).1; omega)); have hb7 := blk_lt hB7; clear hcall)
          | (refine step_own rfl (.tmp 22) (.tmp 25) 23 rfl w1.heap.size 25 i0 _ 5 64 Try.underlying23 hi0' hz0 hz1 hz2 rfl (by decide) (.slice ao m capv) m L.flatten (by simp [Act.eval]) (by exact hown7.alloc _) ⟨w7.heap.size, 0, none⟩ 1 [.int .i64 k, .string t, .float .f64 x, .slice ao2 n2 cp2, .int .i64 a] (by simp [Act.eval]) rfl (by exact news5 _ _ rfl _ _ _ _ _) (by intro u hu; simp at hu; rcases hu with rfl | rfl | rfl | rfl | rfl <;> rfl) (by unfold maxLen; omega) (by omega) (by simp at hs7 ⊢; omega) ?_; intro v' w8 hown' hgrow hfr; have hkids8 := hB.kids.push hfar.1 (w1 := w7) ⟨hK3.os, hK3.tape, hK3.output, hK3.size, hK3.block⟩ hnd hbl hfw hok hL1 hL3 hown' hgrow hfr; have hrow8 := hgrow.block w1.heap.size (by simp; omega) (fun e => (hB.kids.far w1.heap.size e.symm).2 rfl); obtain ⟨ao', n', c8, rfl⟩ := own_slice hown'; have hrow9 := (hrow8.trans (heap_alloc_old w7 _ hb7)).trans hB7; obtain ⟨⟨f0, f1, f2, f3, f4⟩, e0, e1, e2, e3, e4⟩ := row5 hrow9))
        all_goals
          go_wp2_with fail
          have hC := hB.push hst ⟨hK3.os, hK3.tape, hK3.output, hK3.size, hK3.block⟩ hst3 hz3 hkids8 hgrow hrow9
          exact ⟨⟨_, _, _, _, _, hC⟩, left2_lt hA.st hC.st hi3 fun e => (hz3 e).2.1⟩
    · have hcb : (c' == 0) = false := by simpa using hc0
      have hcn : (c' != 0) = true := by simpa using hc0
      have hR5 := row_on hR hA.ke hg
      obtain ⟨⟨r0, r1, r2, r3, r4⟩, y0, y1, y2, y3, y4⟩ := row5 hR5
      have hBl := hA.st.lt
      clear hblk
      go_wp2_with fail
      go_region
      all_goals
        go_wp2_with fail
        exact endS rfl (sets5_row (w := wr.drew) hR5) rfl ⟨((hk1.own hA.ke (by omega)).drewO).own (kp_sets5 _ _ _ _ _ _ _) (Nat.le_refl _), .inl ⟨_, _, hc0, rfl⟩⟩
end Go.Proofs.Ytfkgfibmhhlemaa
namespace Go.Proofs.Ytfkgfibmhhlemaa
open Go.RowKit Go.Maps Go.WideMaps
set_option maxRecDepth 100000 in
set_option maxHeartbeats 4000000 in
theorem scripts_any (s : ByteArray) (w : World) (c7 : ∀ w1, Kp0 w w1 → Calls Try.prog 7 #[] w1 fun e w' => e = .returned (.bool true) ∧ Gr w1 w') :
    Calls Try.prog 4 #[.string s] w fun e w' => e = .returned (.bool true) ∧ Gr w w' := by
  have hsf := store_f
  go_enter Try.func4, Try.ntmps4
  go_wp2_with fail
  refine Calls.mono (read_any s _) ?_
  rintro e w1 ⟨hk1, ⟨b, c, hc, rfl⟩ | ⟨nd, V, rfl, hn, hok, hwt⟩⟩
  · have hcb : (c != 0) = true := by simpa using hc
    have hk2 := hk1.alloc (.cells row0 25)
    have c7a := c7 _ hk2
    go_wp2_with (go_at_call 7; refine Calls.mono c7a ?_; rintro e w10 ⟨rfl, hk10⟩; clear c7a)
    go_ret
    exact ⟨rfl, hk10.ahead hk2⟩
  · obtain ⟨k, t, x, ao, n, cp, a, rfl⟩ := hn.five
    have hk2 := hk1.alloc (.cells #[.int .i64 k, .string t, .float .f64 x, .slice ao n cp, .int .i64 a] 25)
    have hb2 := heap_alloc_new w1 (.cells #[.int .i64 k, .string t, .float .f64 x, .slice ao n cp, .int .i64 a] 25)
    have hR : ∀ {wr}, Kp0 (w1.alloc (.cells #[.int .i64 k, .string t, .float .f64 x, .slice ao n cp, .int .i64 a] 25)) wr → ∀ j, New w w1 j → j < wr.heap.size := fun h j hj => by have := h.size; rw [World.size_alloc] at this; have := hj.2; omega
    have hN : ∀ {wr}, Kp0 (w1.alloc (.cells #[.int .i64 k, .string t, .float .f64 x, .slice ao n cp, .int .i64 a] 25)) wr → NodeAt (New w w1) wr nd (.agg #[.int .i64 k, .string t, .float .f64 x, .slice ao n cp, .int .i64 a]) := fun h => hn.kept fun j hj => (h.block j (by rw [World.size_alloc]; have := hj.2; omega) fun e => e).trans (heap_alloc_old w1 _ hj.2)
    have c9 := script_any nd (New w w1) _ (w1.alloc (.cells #[.int .i64 k, .string t, .float .f64 x, .slice ao n cp, .int .i64 a] 25)) (hR (kp_refl _ _)) (hN (kp_refl _ _)) (by omega)
    have c10 := fun wr (h : Kp0 (w1.alloc (.cells #[.int .i64 k, .string t, .float .f64 x, .slice ao n cp, .int .i64 a] 25)) wr) => compile_any nd (New w w1) _ wr (hR h) hok (hN h) (by omega)
    clear hR hN
    obtain ⟨y0, y1, y2, y3, y4⟩ := box5_of hb2
    cases hcode : scriptC nd with
    | none =>
      rw [hcode] at c9
      simp only [hcode] at c10
      go_wp2_with (first
        | (go_at_call 9; refine Calls.mono c9 ?_; rintro e w3 ⟨rfl, hk3⟩; have hb3 := box_kp hb2 hk3; obtain ⟨u0, u1, u2, u3, u4⟩ := box5_of hb3; have hw3 := hk2.trans0 hk3; have c10a := c10 _ hk3; clear c9 c10)
        | (go_at_call 10; refine Calls.mono c10a ?_; rintro e w5 ⟨rfl, hk5⟩; have hw5 := hw3.trans0 hk5; have s11a := sameins_nil w5; clear c10a)
        | (go_at_call 11; refine Calls.mono s11a ?_; rintro e w' ⟨rfl, rfl⟩; have c7a := c7 _ hw5; clear s11a)
        | (go_at_call 12; refine Calls.mono (num_any _ _) ?_; rintro e w' ⟨rfl, rfl⟩)
        | (go_at_call 7; refine Calls.mono c7a ?_; rintro e w10 ⟨rfl, hk10⟩; clear c7a))
      go_ret
      exact ⟨rfl, hk10.ahead hw5⟩
    | some code =>
      rw [hcode] at c9
      simp only [hcode] at c10
      obtain ⟨hi, h1⟩ := scriptC_insn hcode
      have hm := scriptC_cnt hcode
      go_wp2_with (first
        | (go_at_call 9; refine Calls.mono c9 ?_; intro e w3 h9; obtain ⟨g1, cc1, rfl, r1, hk3⟩ := coded_of h1 h9; have hb3 := box_kp hb2 hk3; obtain ⟨u0, u1, u2, u3, u4⟩ := box5_of hb3; have hw3 := hk2.trans0 hk3; have c10a := c10 _ hk3; clear c9 c10 h9)
        | (go_at_call 10; refine Calls.mono c10a ?_; intro e w5 h9; obtain ⟨g3, cc3, rfl, r3, hk5⟩ := coded_of h1 h9; have r1' := row_kp r1 hk5; have hw5 := hw3.trans0 hk5; have s11a := sameins_any g1 cc1 g3 cc3 (cnt code) _ _ code w5 r1' r3 hi (by omega); clear c10a h9)
        | (go_at_call 11; refine Calls.mono s11a ?_; rintro e w6 ⟨rfl, hs6⟩; have hw6 := hw5.trans0 hs6.kp; have c7a := c7 _ hw6; clear s11a)
        | (go_at_call 12; refine Calls.mono (num_any _ _) ?_; rintro e w' ⟨rfl, rfl⟩)
        | (go_at_call 7; refine Calls.mono c7a ?_; rintro e w10 ⟨rfl, hk10⟩; clear c7a))
      go_ret
      exact ⟨rfl, hk10.ahead hw6⟩
end Go.Proofs.Ytfkgfibmhhlemaa
namespace Go.Proofs.Ytfkgfibmhhlemaa
open Go.ChangeShapes Go.WideShapes Go.ChangeAt Go.RowKit
set_option maxRecDepth 100000 in
theorem lifted4 (os : Os) (started : os.Started) (H : Type) (enc : TypeId × Value → H) :
    ReturnsInHanded {} Try.checked os 4 .any (Rows.compileScriptsSpec.pre6 enc Try.prog Try.f4 Rows.compileScriptsRow.domain false) (Rows.compileScriptsSpec.post enc Try.prog Try.f4 false true false false) := by
  refine returnsInHanded_of_change_shaped (C := Try.checked) own started (by kernel_rfl) Try.func4
    (ChangeSpec.witness6 (enc := enc) (C := Try.checked) false ⟨#[], #[.string ⟨#[]⟩], []⟩ 8 (by kernel_rfl) (by kernel_rfl) (by kernel_rfl) (by kernel_rfl)) ?_
  intro W base args ds gs before hval0 hW _ _ hsh _
  have hW' := hW
  obtain ⟨p, q, hA0, hV, rfl, _, _⟩ := hW
  have hA : DataW.TrodAll enc Try.prog W 0 (fun _ => true) true Try.f4.params.toList args.toList ds p := hA0
  rw [Try.params4] at hA
  obtain ⟨v0, d0, hargs, rfl, h0⟩ := trodAll_one hA
  obtain rfl : args = #[v0] := by cases args; simp_all
  obtain ⟨rfl, rfl⟩ := trodVars_none hV
  have hv : ∃ t, v0 = .string t := by
    have : Value.okWide Try.prog W .any base 9 v0 := hval0 0 9 v0 (by rw [← Array.getElem?_toList, Try.params4]; rfl) rfl
    unfold Value.okWide at this
    rw [Try.underlying9] at this
    cases v0 with
    | string t => exact ⟨t, rfl⟩
    | _ => first | exact this.elim | (exfalso; revert this; simp)
  obtain ⟨t, rfl⟩ := hv
  have hlt : ∀ x ∈ p, x.block < W.heap.size := fun x hx => by simpa using hW'.lt x (List.mem_append_left _ hx)
  refine (scripts_any t W (awake_any (heap_size hsh))).mono fun e W' ⟨he, hg⟩ => ?_
  subst he
  refine ⟨_, rfl, ⟨_, _, _, [], p, [], hW', trodAll_mk1 (shut_bool Try.underlying4 _), ?_, rfl, hg.keptBut, fun h => by cases h⟩⟩
  rw [Try.params4]
  exact trodAll_mk1 (WideElems.Trod_stays (by kernel_rfl) (by kernel_rfl) (of_decide_eq_true (by kernel_rfl)) h0 (fun x hx => hg.same (hlt x hx)) (fun x hx => by simpa using hlt x hx))
theorem named4 : Try.pinned.checked.prog.funcNamed Rows.compileScriptsRow.func = some 4 := by kernel_rfl
theorem inst4 : Try.f4.isInstance Try.prog Rows.compileScriptsRow.origin Rows.compileScriptsRow.targs := of_decide_eq_true (by kernel_rfl)
theorem wrap4 : Try.f4.isWrapper Try.prog Rows.compileScriptsRow.wrapper Rows.compileScriptsRow.mainSum := by unfold Func.isWrapper; first | (rw [if_pos (by decide +kernel)]; kernel_rfl) | (rw [if_neg (by decide +kernel)]; exact ⟨rfl, rfl⟩)
/-- the statement -/
theorem scripts_holds : Rows.CompileScriptsSaid :=
  OpenClaim.holds_of_wide 4 Try.f4 rfl rfl rfl rfl rfl rfl rfl ⟨rfl, rfl, rfl, rfl, rfl⟩ rfl rfl rfl rfl rfl named4 Try.func4 (by kernel_rfl)
    inst4 wrap4 (fun os started H enc _ => lifted4 os started H enc)
#print axioms scripts_holds
end Go.Proofs.Ytfkgfibmhhlemaa
