/- The same evaluator, written for the kernel, and that it is the same. No conditions: a library text of the proof. -/
import Derived.Test.YtelcgdcbghmngaaGreatDoorVG
namespace Go.VM
/-! the same machine, for the kernel: what hangs on the program's text alone is a closed term, which the kernel reckons once; values are looked at through small views -/
inductive IR where | no | i (k : IntKind) (n : Int)
inductive SR where | no | s (l c : Nat)
inductive BR where | no | b (x : Bool)
inductive PR where | no | p (b : Key) (off : Nat)
inductive VR where | no | v (b : Key) (off len : Nat) (cap : ACap)
inductive TR where | no | t (vs : List AV)
noncomputable def AV.ir (v : AV) : IR := AV.rec (motive_1 := fun _ => IR) (motive_2 := fun _ => PUnit) (fun _ => .no) (fun k n => .i k n) (fun _ _ => .no) (fun _ _ => .no) .no (fun _ _ => .no) .no .no (fun _ _ _ _ => .no) .no (fun _ => .no) (fun _ _ _ _ _ => .no) .no (fun _ _ _ => .no) .no (fun _ _ => .no) (fun _ _ => .no) .no .no (fun _ _ _ _ => .no) ⟨⟩ (fun _ _ _ _ => ⟨⟩) v
noncomputable def AV.sr (v : AV) : SR := AV.rec (motive_1 := fun _ => SR) (motive_2 := fun _ => PUnit) (fun _ => .no) (fun _ _ => .no) (fun _ _ => .no) (fun l c => .s l c) .no (fun _ _ => .no) .no .no (fun _ _ _ _ => .no) .no (fun _ => .no) (fun _ _ _ _ _ => .no) .no (fun _ _ _ => .no) .no (fun _ _ => .no) (fun _ _ => .no) .no .no (fun _ _ _ _ => .no) ⟨⟩ (fun _ _ _ _ => ⟨⟩) v
noncomputable def AV.br (v : AV) : BR := AV.rec (motive_1 := fun _ => BR) (motive_2 := fun _ => PUnit) (fun b => .b b) (fun _ _ => .no) (fun _ _ => .no) (fun _ _ => .no) .no (fun _ _ => .no) .no .no (fun _ _ _ _ => .no) .no (fun _ => .no) (fun _ _ _ _ _ => .no) .no (fun _ _ _ => .no) .no (fun _ _ => .no) (fun _ _ => .no) .no .no (fun _ _ _ _ => .no) ⟨⟩ (fun _ _ _ _ => ⟨⟩) v
noncomputable def AV.pr (v : AV) : PR := AV.rec (motive_1 := fun _ => PR) (motive_2 := fun _ => PUnit) (fun _ => .no) (fun _ _ => .no) (fun _ _ => .no) (fun _ _ => .no) .no (fun b o => .p b o) .no .no (fun _ _ _ _ => .no) .no (fun _ => .no) (fun _ _ _ _ _ => .no) .no (fun _ _ _ => .no) .no (fun _ _ => .no) (fun _ _ => .no) .no .no (fun _ _ _ _ => .no) ⟨⟩ (fun _ _ _ _ => ⟨⟩) v
noncomputable def AV.vr (v : AV) : VR := AV.rec (motive_1 := fun _ => VR) (motive_2 := fun _ => PUnit) (fun _ => .no) (fun _ _ => .no) (fun _ _ => .no) (fun _ _ => .no) .no (fun _ _ => .no) .no .no (fun b o l c => .v b o l c) .no (fun _ => .no) (fun _ _ _ _ _ => .no) .no (fun _ _ _ => .no) .no (fun _ _ => .no) (fun _ _ => .no) .no .no (fun _ _ _ _ => .no) ⟨⟩ (fun _ _ _ _ => ⟨⟩) v
noncomputable def AV.tr (v : AV) : TR := AV.rec (motive_1 := fun _ => TR) (motive_2 := fun _ => PUnit) (fun _ => .no) (fun _ _ => .no) (fun _ _ => .no) (fun _ _ => .no) .no (fun _ _ => .no) .no .no (fun _ _ _ _ => .no) .no (fun _ => .no) (fun _ _ _ _ _ => .no) .no (fun _ _ _ => .no) .no (fun _ _ => .no) (fun vs _ => .t vs) .no .no (fun _ _ _ _ => .no) ⟨⟩ (fun _ _ _ _ => ⟨⟩) v
noncomputable def natI (n : Int) : Option Nat := Int.rec (motive := fun _ => Option Nat) some (fun _ => none) n
noncomputable def AV.nr (v : AV) : Option Nat := AV.rec (motive_1 := fun _ => Option Nat) (motive_2 := fun _ => PUnit) (fun _ => none) (fun _ n => natI n) (fun _ _ => none) (fun _ _ => none) none (fun _ _ => none) none none (fun _ _ _ _ => none) none (fun _ => none) (fun _ _ _ _ _ => none) none (fun _ _ _ => none) none (fun _ _ => none) (fun _ _ => none) none none (fun _ _ _ _ => none) ⟨⟩ (fun _ _ _ _ => ⟨⟩) v
noncomputable def AV.oneF (v : AV) : Bool := AV.rec (motive_1 := fun _ => Bool) (motive_2 := fun _ => PUnit) (fun _ => true) (fun _ _ => true) (fun _ _ => true) (fun _ _ => true) true (fun _ _ => true) true true (fun _ _ _ _ => true) true (fun _ => true) (fun _ _ _ _ _ => true) true (fun _ _ _ => true) true (fun _ _ => false) (fun _ _ => false) false false (fun _ _ _ _ => true) ⟨⟩ (fun _ _ _ _ => ⟨⟩) v
theorem AV.ir_is {v : AV} {k : IntKind} {n : Int} (h : v.ir = .i k n) : v = .int k n := by
  cases v
  case int k' n' => have h : IR.i k' n' = IR.i k n := h; injection h with e0 e1; subst e0; subst e1; rfl
  all_goals exact nomatch (show IR.no = IR.i k n from h)
theorem AV.sr_is {v : AV} {l : Nat} {c : Nat} (h : v.sr = .s l c) : v = .str l c := by
  cases v
  case str l' c' => have h : SR.s l' c' = SR.s l c := h; injection h with e0 e1; subst e0; subst e1; rfl
  all_goals exact nomatch (show SR.no = SR.s l c from h)
theorem AV.br_is {v : AV} {b : Bool} (h : v.br = .b b) : v = .bool b := by
  cases v
  case bool b' => have h : BR.b b' = BR.b b := h; injection h with e0; subst e0; rfl
  all_goals exact nomatch (show BR.no = BR.b b from h)
theorem AV.pr_is {v : AV} {b : Key} {o : Nat} (h : v.pr = .p b o) : v = .ptr b o := by
  cases v
  case ptr b' o' => have h : PR.p b' o' = PR.p b o := h; injection h with e0 e1; subst e0; subst e1; rfl
  all_goals exact nomatch (show PR.no = PR.p b o from h)
theorem AV.vr_is {v : AV} {b : Key} {o : Nat} {l : Nat} {c : ACap} (h : v.vr = .v b o l c) : v = .slice b o l c := by
  cases v
  case slice b' o' l' c' => have h : VR.v b' o' l' c' = VR.v b o l c := h; injection h with e0 e1 e2 e3; subst e0; subst e1; subst e2; subst e3; rfl
  all_goals exact nomatch (show VR.no = VR.v b o l c from h)
theorem AV.tr_is {v : AV} {vs : List AV} (h : v.tr = .t vs) : v = .tup vs := by
  cases v
  case tup vs' => have h : TR.t vs' = TR.t vs := h; injection h with e0; subst e0; rfl
  all_goals exact nomatch (show TR.no = TR.t vs from h)
theorem AV.nr_is {v : AV} {n : Nat} (h : v.nr = some n) : ∃ k, v = .int k (.ofNat n) := by
  cases v
  case int k m =>
    cases m with
    | ofNat a => have h : some a = some n := h; injection h with e; subst e; exact ⟨k, rfl⟩
    | negSucc a => exact nomatch (show none = some n from h)
  all_goals exact nomatch (show none = some n from h)
theorem AV.oneF_eq (v : AV) : v.oneF = v.one := by cases v <;> rfl
theorem forceN_eqF {α : Type} (n : Nat) (k : Nat → α) : forceN n k = k n := by cases n <;> rfl
/-! integers, texts -/
noncomputable def isI64 (k : IntKind) : Bool := IntKind.rec (motive := fun _ => Bool) false false false true false false false false k
theorem isI64_is {k : IntKind} (h : isI64 k = true) : k = .i64 := by cases k <;> first | rfl | exact nomatch (show false = true from h)
noncomputable def kNo (k : IntKind) : Nat := IntKind.rec (motive := fun _ => Nat) 0 1 2 3 4 5 6 7 k
theorem kNo_eq (k : IntKind) : kNo k = kindNo k := by cases k <;> rfl
def noN (_ : Nat) : Option AV := none
def addN (s : Nat) : Option AV := cond (Nat.blt s 9223372036854775808) (some (.int .i64 (.ofNat s))) none
noncomputable def addNN (a b : Nat) : Option AV := forceN (Nat.add a b) addN
noncomputable def addI1 (b : Int) (a : Nat) : Option AV := Int.rec (motive := fun _ => Option AV) (addNN a) noN b
noncomputable def addI (a b : Int) : Option AV := Int.rec (motive := fun _ => Option AV) (addI1 b) noN a
noncomputable def addF3 (k : IntKind) (a : Int) (k' : IntKind) (b : Int) : Option AV := cond (isI64 k) (cond (isI64 k') (addI a b) none) none
noncomputable def subNN (a b : Nat) : Option AV := cond (Nat.ble b a) (forceN (Nat.sub a b) addN) none
noncomputable def subI1 (b : Int) (a : Nat) : Option AV := Int.rec (motive := fun _ => Option AV) (subNN a) noN b
noncomputable def subI (a b : Int) : Option AV := Int.rec (motive := fun _ => Option AV) (subI1 b) noN a
noncomputable def subF3 (k : IntKind) (a : Int) (k' : IntKind) (b : Int) : Option AV := cond (isI64 k) (cond (isI64 k') (subI a b) none) none
noncomputable def ltP (b : Int) (a : Nat) : Bool := Int.rec (motive := fun _ => Bool) (Nat.blt a) (fun _ => false) b
noncomputable def ltM1 (a b : Nat) : Bool := Nat.blt b a
noncomputable def ltM (b : Int) (a : Nat) : Bool := Int.rec (motive := fun _ => Bool) (fun _ => true) (ltM1 a) b
noncomputable def ltI (a b : Int) : Bool := Int.rec (motive := fun _ => Bool) (ltP b) (ltM b) a
noncomputable def eqP (b : Int) (a : Nat) : Bool := Int.rec (motive := fun _ => Bool) (Nat.beq a) (fun _ => false) b
noncomputable def eqM (b : Int) (a : Nat) : Bool := Int.rec (motive := fun _ => Bool) (fun _ => false) (Nat.beq a) b
noncomputable def eqI (a b : Int) : Bool := Int.rec (motive := fun _ => Bool) (eqP b) (eqM b) a
theorem ltI_eq (a b : Int) : ltI a b = intLt a b := by cases a <;> cases b <;> rfl
theorem eqI_eq (a b : Int) : eqI a b = intEq a b := by cases a <;> cases b <;> rfl
noncomputable def boolO (b : Bool) : Option AV := Bool.rec (motive := fun _ => Option AV) (some (.bool false)) (some (.bool true)) b
noncomputable def boolN (b : Bool) : Option AV := Bool.rec (motive := fun _ => Option AV) (some (.bool true)) (some (.bool false)) b
noncomputable def ltF3 (k : IntKind) (a : Int) (k' : IntKind) (b : Int) : Option AV := cond (Nat.beq (kNo k) (kNo k')) (boolO (ltI a b)) none
noncomputable def gtF3 (k : IntKind) (a : Int) (k' : IntKind) (b : Int) : Option AV := cond (Nat.beq (kNo k) (kNo k')) (boolO (ltI b a)) none
noncomputable def leF3 (k : IntKind) (a : Int) (k' : IntKind) (b : Int) : Option AV := cond (Nat.beq (kNo k) (kNo k')) (boolN (ltI b a)) none
noncomputable def geF3 (k : IntKind) (a : Int) (k' : IntKind) (b : Int) : Option AV := cond (Nat.beq (kNo k) (kNo k')) (boolN (ltI a b)) none
noncomputable def eqF3 (k : IntKind) (a : Int) (k' : IntKind) (b : Int) : Option AV := cond (Nat.beq (kNo k) (kNo k')) (boolO (eqI a b)) none
noncomputable def neF3 (k : IntKind) (a : Int) (k' : IntKind) (b : Int) : Option AV := cond (Nat.beq (kNo k) (kNo k')) (boolN (eqI a b)) none
noncomputable def strO2 (l c : Nat) : Option AV := cond (Nat.ble l 1000000) (some (.str l c)) none
noncomputable def strO1 (c l : Nat) : Option AV := forceN c (strO2 l)
noncomputable def strO (l c : Nat) : Option AV := forceN l (strO1 c)
noncomputable def addS4 (la a lb b : Nat) : Option AV := strO (Nat.add la lb) (Nat.add a (Nat.shiftLeft b (Nat.mul 8 la)))
noncomputable def eqS4 (la a lb b : Nat) : Option AV := boolO (cond (Nat.beq la lb) (Nat.beq a b) false)
noncomputable def neS4 (la a lb b : Nat) : Option AV := boolN (cond (Nat.beq la lb) (Nat.beq a b) false)
abbrev F4 := IntKind → Int → IntKind → Int → Option AV
abbrev S4 := Nat → Nat → Nat → Nat → Option AV
def noS4 (_ _ _ _ : Nat) : Option AV := none
noncomputable def int2a (f : F4) (y : AV) (k : IntKind) (a : Int) : Option AV := IR.rec (motive := fun _ => Option AV) none (f k a) y.ir
noncomputable def str2a (f : S4) (y : AV) (l c : Nat) : Option AV := SR.rec (motive := fun _ => Option AV) none (f l c) y.sr
noncomputable def str2 (f : S4) (x y : AV) : Option AV := SR.rec (motive := fun _ => Option AV) none (str2a f y) x.sr
noncomputable def both2 (f : F4) (g : S4) (x y : AV) : Option AV := IR.rec (motive := fun _ => Option AV) (str2 g x y) (int2a f y) x.ir
theorem both2_some {f : F4} {g : S4} {x y v : AV} (h : both2 f g x y = some v) : (∃ k a k' b, x = .int k a ∧ y = .int k' b ∧ f k a k' b = some v) ∨ (∃ l c l' c', x = .str l c ∧ y = .str l' c' ∧ g l c l' c' = some v) := by
  unfold both2 at h
  cases hx : x.ir with
  | i k a =>
    rw [hx] at h
    have h : int2a f y k a = some v := h
    unfold int2a at h
    cases hy : y.ir with
    | i k' b => rw [hy] at h; exact .inl ⟨k, a, k', b, AV.ir_is hx, AV.ir_is hy, h⟩
    | no => rw [hy] at h; exact nomatch (show none = some v from h)
  | no =>
    rw [hx] at h
    have h : str2 g x y = some v := h
    unfold str2 at h
    cases hs : x.sr with
    | no => rw [hs] at h; exact nomatch (show none = some v from h)
    | s l c =>
      rw [hs] at h
      have h : str2a g y l c = some v := h
      unfold str2a at h
      cases hy : y.sr with
      | s l' c' => rw [hy] at h; exact .inr ⟨l, c, l', c', AV.sr_is hs, AV.sr_is hy, h⟩
      | no => rw [hy] at h; exact nomatch (show none = some v from h)
structure FB where
  f : AV → AV → Option AV
def none2 (_ _ : AV) : Option AV := none
noncomputable def ffB (op : BinOp) : FB := BinOp.rec (motive := fun _ => FB) ⟨both2 addF3 addS4⟩ ⟨both2 subF3 noS4⟩ ⟨none2⟩ ⟨none2⟩ ⟨none2⟩ ⟨none2⟩ ⟨none2⟩ ⟨none2⟩ ⟨none2⟩ ⟨none2⟩ ⟨none2⟩ ⟨both2 eqF3 eqS4⟩ ⟨both2 neF3 neS4⟩ ⟨both2 ltF3 noS4⟩ ⟨both2 leF3 noS4⟩ ⟨both2 gtF3 noS4⟩ ⟨both2 geF3 noS4⟩ op
theorem boolO_some {b : Bool} {v : AV} (h : boolO b = some v) (hp : Heap) : boolV b hp = .val v hp := by
  cases b <;> (injection h with e; subst e; rfl)
theorem boolN_some {b : Bool} {v : AV} (h : boolN b = some v) (hp : Heap) : boolV (not b) hp = .val v hp := by
  cases b <;> (injection h with e; subst e; rfl)
section
variable (P : Program)
theorem addN_some {s : Nat} {v : AV} (h : addN s = some v) : Nat.blt s 9223372036854775808 = true ∧ v = .int .i64 (.ofNat s) := by
  unfold addN at h
  cases hb : Nat.blt s 9223372036854775808 with
  | true => rw [hb] at h; injection h with e; exact ⟨rfl, e.symm⟩
  | false => rw [hb] at h; cases h
theorem arI64_some {op : BinOp} {t : Nat} {a b : Int} {hp : Heap} {s : Nat} (hb : Nat.blt s 9223372036854775808 = true) : arI64 P op t .i64 a .i64 b hp (Int.ofNat s) = .val (.int .i64 (.ofNat s)) hp := by
  show cond (Nat.blt s 9223372036854775808) (intV .i64 (Int.ofNat s) hp) _ = _
  rw [hb]
  show forceN s (fun a => Res.val (.int .i64 (Int.ofNat a)) hp) = _
  rw [forceN_eqF]
theorem addF3_ok {t : Nat} {k k' : IntKind} {a b : Int} {v : AV} {hp : Heap} (h : addF3 k a k' b = some v) : binInt P .add t k a k' b hp = .val v hp := by
  unfold addF3 at h
  cases h1 : isI64 k with
  | false => rw [h1] at h; cases h
  | true => cases h2 : isI64 k' with
    | false => rw [h1, h2] at h; cases h
    | true =>
      rw [h1, h2] at h
      obtain rfl := isI64_is h1
      obtain rfl := isI64_is h2
      have h : addI a b = some v := h
      cases a with
      | negSucc a => exact nomatch (show none = some v from h)
      | ofNat a => cases b with
        | negSucc b => exact nomatch (show none = some v from h)
        | ofNat b =>
          have h : forceN (Nat.add a b) addN = some v := h
          rw [forceN_eqF] at h
          obtain ⟨hb, rfl⟩ := addN_some h
          exact arI64_some P hb
theorem subF3_ok {t : Nat} {k k' : IntKind} {a b : Int} {v : AV} {hp : Heap} (h : subF3 k a k' b = some v) : binInt P .sub t k a k' b hp = .val v hp := by
  unfold subF3 at h
  cases h1 : isI64 k with
  | false => rw [h1] at h; cases h
  | true => cases h2 : isI64 k' with
    | false => rw [h1, h2] at h; cases h
    | true =>
      rw [h1, h2] at h
      obtain rfl := isI64_is h1
      obtain rfl := isI64_is h2
      have h : subI a b = some v := h
      cases a with
      | negSucc a => exact nomatch (show none = some v from h)
      | ofNat a => cases b with
        | negSucc b => exact nomatch (show none = some v from h)
        | ofNat b =>
          have h : cond (Nat.ble b a) (forceN (Nat.sub a b) addN) none = some v := h
          cases hle : Nat.ble b a with
          | false => rw [hle] at h; cases h
          | true =>
            rw [hle] at h
            have h : forceN (Nat.sub a b) addN = some v := h
            rw [forceN_eqF] at h
            obtain ⟨hb, rfl⟩ := addN_some h
            have e : (Int.ofNat a - Int.ofNat b) = Int.ofNat (Nat.sub a b) := by
              have := Nat.le_of_ble_eq_true hle
              show ((a : Nat) : Int) - ((b : Nat) : Int) = ((a - b : Nat) : Int)
              omega
            show arI64 P .sub t .i64 (Int.ofNat a) .i64 (Int.ofNat b) hp (Int.ofNat a - Int.ofNat b) = _
            rw [e]
            exact arI64_some P hb
theorem cmp_ok {op : BinOp} {t : Nat} {k k' : IntKind} {a b : Int} {v : AV} {hp : Heap} {x : Option AV} (h : cond (Nat.beq (kNo k) (kNo k')) x none = some v) (hx : x = some v → binIntQ P op t k a k' b hp = .val v hp) : binInt P op t k a k' b hp = .val v hp := by
  rw [kNo_eq, kNo_eq] at h
  unfold binInt
  cases hb : Nat.beq (kindNo k) (kindNo k') with
  | false => rw [hb] at h; cases h
  | true => rw [hb] at h; exact hx h
theorem ltF3_ok {t : Nat} {k k' : IntKind} {a b : Int} {v : AV} {hp : Heap} (h : ltF3 k a k' b = some v) : binInt P .lss t k a k' b hp = .val v hp := cmp_ok P h fun h => by rw [ltI_eq] at h; exact boolO_some h hp
theorem gtF3_ok {t : Nat} {k k' : IntKind} {a b : Int} {v : AV} {hp : Heap} (h : gtF3 k a k' b = some v) : binInt P .gtr t k a k' b hp = .val v hp := cmp_ok P h fun h => by rw [ltI_eq] at h; exact boolO_some h hp
theorem leF3_ok {t : Nat} {k k' : IntKind} {a b : Int} {v : AV} {hp : Heap} (h : leF3 k a k' b = some v) : binInt P .leq t k a k' b hp = .val v hp := cmp_ok P h fun h => by rw [ltI_eq] at h; exact boolN_some h hp
theorem geF3_ok {t : Nat} {k k' : IntKind} {a b : Int} {v : AV} {hp : Heap} (h : geF3 k a k' b = some v) : binInt P .geq t k a k' b hp = .val v hp := cmp_ok P h fun h => by rw [ltI_eq] at h; exact boolN_some h hp
theorem eqF3_ok {t : Nat} {k k' : IntKind} {a b : Int} {v : AV} {hp : Heap} (h : eqF3 k a k' b = some v) : binInt P .eql t k a k' b hp = .val v hp := cmp_ok P h fun h => by rw [eqI_eq] at h; exact boolO_some h hp
theorem neF3_ok {t : Nat} {k k' : IntKind} {a b : Int} {v : AV} {hp : Heap} (h : neF3 k a k' b = some v) : binInt P .neq t k a k' b hp = .val v hp := cmp_ok P h fun h => by rw [eqI_eq] at h; exact boolN_some h hp
theorem addS4_ok {la a lb b : Nat} {v : AV} {hp : Heap} (h : addS4 la a lb b = some v) : binStr .add la a lb b hp = .val v hp := by
  unfold addS4 strO strO1 strO2 at h
  rw [forceN_eqF, forceN_eqF] at h
  show strV (la + lb) (a + Nat.shiftLeft b (8 * la)) hp = _
  unfold strV
  rw [forceN_eqF, forceN_eqF]
  show cond (Nat.ble (Nat.add la lb) 1000000) _ _ = _
  cases hb : Nat.ble (Nat.add la lb) 1000000 with
  | false => rw [hb] at h; cases h
  | true =>
    rw [hb] at h
    injection h with e; subst e
    rfl
theorem ffB_ok {op : BinOp} {t : Nat} {c : Bool} {x y v : AV} {hp : Heap} (h : (ffB op).f x y = some v) : xBin P op t c x y hp = .val v hp := by
  have no : ∀ {z : Option AV}, none2 x y = some v → False := fun e => nomatch (show none = some v from e)
  cases op
  case add =>
    rcases both2_some h with ⟨k, a, k', b, rfl, rfl, h⟩ | ⟨l, a, l', b, rfl, rfl, h⟩
    · exact addF3_ok P h
    · exact addS4_ok h
  case sub =>
    rcases both2_some h with ⟨k, a, k', b, rfl, rfl, h⟩ | ⟨l, a, l', b, rfl, rfl, h⟩
    · exact subF3_ok P h
    · exact nomatch (show none = some v from h)
  case eql =>
    rcases both2_some h with ⟨k, a, k', b, rfl, rfl, h⟩ | ⟨l, a, l', b, rfl, rfl, h⟩
    · exact eqF3_ok P h
    · exact boolO_some h hp
  case neq =>
    rcases both2_some h with ⟨k, a, k', b, rfl, rfl, h⟩ | ⟨l, a, l', b, rfl, rfl, h⟩
    · exact neF3_ok P h
    · exact boolN_some h hp
  case lss =>
    rcases both2_some h with ⟨k, a, k', b, rfl, rfl, h⟩ | ⟨l, a, l', b, rfl, rfl, h⟩
    · exact ltF3_ok P h
    · exact nomatch (show none = some v from h)
  case leq =>
    rcases both2_some h with ⟨k, a, k', b, rfl, rfl, h⟩ | ⟨l, a, l', b, rfl, rfl, h⟩
    · exact leF3_ok P h
    · exact nomatch (show none = some v from h)
  case gtr =>
    rcases both2_some h with ⟨k, a, k', b, rfl, rfl, h⟩ | ⟨l, a, l', b, rfl, rfl, h⟩
    · exact gtF3_ok P h
    · exact nomatch (show none = some v from h)
  case geq =>
    rcases both2_some h with ⟨k, a, k', b, rfl, rfl, h⟩ | ⟨l, a, l', b, rfl, rfl, h⟩
    · exact geF3_ok P h
    · exact nomatch (show none = some v from h)
  all_goals exact nomatch (show none = some v from h)
/-! operands, operations -/
structure OB where
  g : Slots → AV
noncomputable def gS (a b : D8) (T : Slots) : AV := (sel a).f ((sel b).f T.t.lo)
noncomputable def gM (a b c : D8) (T : Slots) : AV := (sel a).f ((sel b).f ((sel c).f T.t.mid))
noncomputable def gH (n : Nat) (T : Slots) : AV := hiGet n T.t.hi
noncomputable def bS (a b : D8) : OB := ⟨gS a b⟩
noncomputable def bM (a b c : D8) : OB := ⟨gM a b c⟩
noncomputable def bH (n : Nat) : OB := ⟨gH n⟩
noncomputable def opT (t : Nat) : OB := SKey.rec (motive := fun _ => OB) bS bM bH (keyOf t)
noncomputable def gC (v : Value) (_ : Slots) : AV := getJ (ofVal v)
noncomputable def opC (v : Value) : OB := ⟨gC v⟩
noncomputable def gG (g : Nat) (_ : Slots) : AV := globA P g
noncomputable def opG (g : Nat) : OB := ⟨gG P g⟩
def gF (f : Nat) (_ : Slots) : AV := .func (.func f) [] []
def opF (f : Nat) : OB := ⟨gF f⟩
noncomputable def opd (x : Operand) : OB := Operand.rec (motive := fun _ => OB) opT opC (opG P) opF x
theorem opd_eq (x : Operand) (T : Slots) : (opd P x).g T = ev P T x := by
  cases x
  case tmp t =>
    show (SKey.rec (motive := fun _ => OB) bS bM bH (keyOf t)).g T = T.t.get (keyOf t)
    generalize keyOf t = k
    cases k <;> rfl
  all_goals rfl
abbrev XK := Slots → Heap → (AV → Heap → St) → (Res → St) → St
structure XB where
  f : XK
def Good (f : XK) (g : XF) : Prop := ∀ T h next slow, (∀ v h, slow (Res.val v h) = next v h) → f T h next slow = slow (g T h)
def kSlow (g : XF) : XK := fun T h _ slow => slow (g T h)
def xSlow (g : XF) : XB := ⟨kSlow g⟩
theorem kSlow_good (g : XF) : Good (kSlow g) g := fun _ _ _ _ _ => rfl
def kN (next : AV → Heap → St) (h : Heap) (v : AV) : St := next v h
/-- an answer that is there at once, and the memory stays; else the long way -/
noncomputable def kO (g : XF) (T : Slots) (h : Heap) (next : AV → Heap → St) (slow : Res → St) (o : Option AV) : St := Option.rec (motive := fun _ => St) (slow (g T h)) (kN next h) o
theorem kO_good {g : XF} {T : Slots} {h : Heap} {next : AV → Heap → St} {slow : Res → St} (hs : ∀ v h, slow (Res.val v h) = next v h) {o : Option AV} (ho : ∀ v, o = some v → g T h = .val v h) : kO g T h next slow o = slow (g T h) := by
  cases o with
  | none => rfl
  | some v => show next v h = _; rw [ho v rfl, hs]
noncomputable def kMove (x : Slots → AV) : XK := fun T h next _ => next (x T) h
noncomputable def kF2 (ff : AV → AV → Option AV) (g : XF) (x y : Slots → AV) : XK := fun T h next slow => kO g T h next slow (ff (x T) (y T))
noncomputable def xbMove (x : Operand) : XB := ⟨kMove (opd P x).g⟩
noncomputable def xbBin (op : BinOp) (t : Nat) (x y : Operand) (u : Nat) : XB := ⟨kF2 (ffB op).f (cBin P op t x y u) (opd P x).g (opd P y).g⟩
theorem xbMove_good (x : Operand) : Good (xbMove P x).f (cMove P x) := fun T h next slow hs => by
  show next ((opd P x).g T) h = slow (.val (ev P T x) h)
  rw [opd_eq, hs]
theorem xbBin_good (op : BinOp) (t : Nat) (x y : Operand) (u : Nat) : Good (xbBin P op t x y u).f (cBin P op t x y u) := fun T h next slow hs =>
  kO_good hs fun v hv => by
    rw [opd_eq, opd_eq] at hv
    exact ffB_ok P hv
/-! one argument -/
noncomputable def kF1 (ff : Heap → AV → Option AV) (g : XF) (x : Slots → AV) : XK := fun T h next slow => kO g T h next slow (ff h (x T))
theorem kF1_good {ff : Heap → AV → Option AV} {g : XF} {x : Operand} (hf : ∀ T h v, ff h (ev P T x) = some v → g T h = .val v h) : Good (kF1 ff g (opd P x).g) g := fun T h next slow hs =>
  kO_good hs fun v hv => by rw [opd_eq] at hv; exact hf T h v hv
/-- the n-th -/
noncomputable def nthS (x : AV) (ih : Nat → Option AV) (n : Nat) : Option AV := Nat.rec (motive := fun _ => Option AV) (some x) (fun m _ => ih m) n
noncomputable def nthO (l : List AV) : Nat → Option AV := List.rec (motive := fun _ => Nat → Option AV) (fun _ => none) (fun x _ ih => nthS x ih) l
theorem drop_nil {α : Type} (n : Nat) : drop n ([] : List α) = [] := by cases n <;> rfl
theorem nthO_eq : ∀ (l : List AV) (n : Nat), nthO l n = hd (drop n l)
  | [], n => by rw [drop_nil]; rfl
  | x :: r, 0 => rfl
  | x :: r, n + 1 => nthO_eq r n
noncomputable def objCells (o : AObj) : Option (List AV) := AObj.rec (motive := fun _ => Option (List AV)) (fun _ cs _ _ => some cs) (fun _ cs => some cs) none (fun _ _ => none) (fun _ _ _ => none) (fun _ _ _ _ => none) (fun _ _ _ _ _ _ _ _ => none) (fun _ => none) o
noncomputable def nthAt (off : Nat) (cs : List AV) : Option AV := nthO cs off
noncomputable def cellObj (off : Nat) (o : AObj) : Option AV := Option.rec (motive := fun _ => Option AV) none (nthAt off) (objCells o)
noncomputable def cellF (h : Heap) (b : Key) (off : Nat) : Option AV := Option.rec (motive := fun _ => Option AV) none (cellObj off) (h.t.get b)
theorem cellF_eq (h : Heap) (b : Key) (off : Nat) : cellF h b off = cellAt h b off := by
  obtain ⟨t, n⟩ := h
  show Option.rec (motive := fun _ => Option AV) none (cellObj off) (t.get b) = Option.rec (motive := fun _ => Option AV) none (fun cs => hd (drop off cs)) (cellsOf (t.get b))
  cases t.get b with
  | none => rfl
  | some o => cases o <;> first | rfl | exact nthO_eq _ _
noncomputable def ldF (h : Heap) (v : AV) : Option AV := PR.rec (motive := fun _ => Option AV) none (cellF h) v.pr
noncomputable def xbLoad (t : Nat) (x : Operand) : XB := cond (and (known P t) (not (isAggT P t))) ⟨kF1 ldF (cLoad P t x) (opd P x).g⟩ (xSlow (cLoad P t x))
theorem xbLoad_good (t : Nat) (x : Operand) : Good (xbLoad P t x).f (cLoad P t x) := by
  unfold xbLoad
  cases hk : known P t with
  | false => exact kSlow_good _
  | true => cases ha : isAggT P t with
    | true => exact kSlow_good _
    | false =>
      refine kF1_good P fun T h v hv => ?_
      unfold ldF at hv
      cases hp : (ev P T x).pr with
      | no => rw [hp] at hv; exact nomatch (show none = some v from hv)
      | p b off =>
        rw [hp] at hv
        have hv : cellF h b off = some v := hv
        rw [cellF_eq] at hv
        have e := AV.pr_is hp
        show xLoad P t (ev P T x) h = _
        rw [e]
        show cond (isAggT P t) _ (cond (known P t) (okv (cellAt h b off) h "load") (.bad "load type")) = _
        rw [ha, hk, hv]; rfl
def faP (b : Key) (o : Nat) : Option AV := some (.ptr b o)
noncomputable def faN (o : Nat) (b : Key) (off : Nat) : Option AV := forceN (Nat.add off o) (faP b)
noncomputable def faF (o : Nat) (_ : Heap) (v : AV) : Option AV := PR.rec (motive := fun _ => Option AV) none (faN o) v.pr
noncomputable def xbFieldAddr (s : Nat) (x : Operand) (f : Nat) : XB := cond (okField P s f) ⟨kF1 (faF (offOf P s f)) (cFieldAddr P s x f) (opd P x).g⟩ (xSlow (cFieldAddr P s x f))
theorem xbFieldAddr_good (s : Nat) (x : Operand) (f : Nat) : Good (xbFieldAddr P s x f).f (cFieldAddr P s x f) := by
  unfold xbFieldAddr
  cases hk : okField P s f with
  | false => exact kSlow_good _
  | true =>
    refine kF1_good P fun T h v hv => ?_
    unfold faF at hv
    cases hp : (ev P T x).pr with
    | no => rw [hp] at hv; exact nomatch (show none = some v from hv)
    | p b off =>
      rw [hp] at hv
      have hv : forceN (Nat.add off (offOf P s f)) (faP b) = some v := hv
      rw [forceN_eqF] at hv
      injection hv with hv
      subst hv
      have e := AV.pr_is hp
      show xFieldAddr P s f (ev P T x) h = _
      rw [e]
      show cond (okField P s f) (forceN (off + offOf P s f) (fun o => Res.val (.ptr b o) h)) _ = _
      rw [hk, forceN_eqF]; rfl
noncomputable def nilF (v : AV) : Option AV := PR.rec (motive := fun _ => Option AV) none (fun b o => some (.ptr b o)) v.pr
noncomputable def nilH (_ : Heap) (v : AV) : Option AV := nilF v
noncomputable def xbNil (x : Operand) : XB := ⟨kF1 nilH (cNil P x) (opd P x).g⟩
theorem xbNil_good (x : Operand) : Good (xbNil P x).f (cNil P x) := by
  refine kF1_good P fun T h v hv => ?_
  have hv : nilF (ev P T x) = some v := hv
  unfold nilF at hv
  cases hp : (ev P T x).pr with
  | no => rw [hp] at hv; exact nomatch (show none = some v from hv)
  | p b off =>
    rw [hp] at hv
    injection hv with hv
    subst hv
    show xNil (ev P T x) h = _
    rw [AV.pr_is hp]; rfl
noncomputable def exN (i : Nat) (vs : List AV) : Option AV := nthO vs i
noncomputable def exF (i : Nat) (_ : Heap) (v : AV) : Option AV := TR.rec (motive := fun _ => Option AV) none (exN i) v.tr
noncomputable def xbExtract (x : Operand) (i : Nat) : XB := ⟨kF1 (exF i) (cExtract P x i) (opd P x).g⟩
theorem xbExtract_good (x : Operand) (i : Nat) : Good (xbExtract P x i).f (cExtract P x i) := by
  refine kF1_good P fun T h v hv => ?_
  unfold exF at hv
  cases hp : (ev P T x).tr with
  | no => rw [hp] at hv; exact nomatch (show none = some v from hv)
  | t vs =>
    rw [hp] at hv
    have hv : nthO vs i = some v := hv
    rw [nthO_eq] at hv
    show xExtract (ev P T x) i h = _
    rw [AV.tr_is hp]
    show okv (hd (drop i vs)) h "extract" = _
    rw [hv]; rfl
noncomputable def notF (_ : Heap) (v : AV) : Option AV := BR.rec (motive := fun _ => Option AV) none boolN v.br
noncomputable def noneH (_ : Heap) (_ : AV) : Option AV := none
structure HB where
  f : Heap → AV → Option AV
noncomputable def unB (op : UnOp) : HB := UnOp.rec (motive := fun _ => HB) ⟨noneH⟩ ⟨noneH⟩ ⟨notF⟩ ⟨noneH⟩ op
noncomputable def xbUn (op : UnOp) (t : Nat) (x : Operand) : XB := ⟨kF1 (unB op).f (cUn P op t x) (opd P x).g⟩
theorem xbUn_good (op : UnOp) (t : Nat) (x : Operand) : Good (xbUn P op t x).f (cUn P op t x) := by
  refine kF1_good P fun T h v hv => ?_
  cases op
  case not =>
    have hv : notF h (ev P T x) = some v := hv
    unfold notF at hv
    cases hp : (ev P T x).br with
    | no => rw [hp] at hv; exact nomatch (show none = some v from hv)
    | b c =>
      rw [hp] at hv
      show xUn P .not (ev P T x) h = _
      rw [AV.br_is hp]
      exact boolN_some hv h
  all_goals exact nomatch (show none = some v from hv)
/-! an index -/
noncomputable def iaN (sz : Nat) (b : Key) (off n i : Nat) : Option AV := cond (Nat.blt i n) (forceN (Nat.add off (Nat.mul i sz)) (faP b)) none
noncomputable def iaV (sz : Nat) (y : AV) (b : Key) (off n : Nat) (_ : ACap) : Option AV := Option.rec (motive := fun _ => Option AV) none (iaN sz b off n) y.nr
noncomputable def iaF (sz : Nat) (x y : AV) : Option AV := VR.rec (motive := fun _ => Option AV) none (iaV sz y) x.vr
def slE (d : Option TypeDesc) : Option Nat := match d with
  | some (.slice e) => some e
  | _ => none
noncomputable def xbIA1 (t : Nat) (x i : Operand) (e : Nat) : XB := cond (posT P e) ⟨kF2 (iaF (szOf P e)) (cIndexAddr P t x i) (opd P x).g (opd P i).g⟩ (xSlow (cIndexAddr P t x i))
noncomputable def xbIndexAddr (t : Nat) (x i : Operand) : XB := Option.rec (motive := fun _ => XB) (xSlow (cIndexAddr P t x i)) (xbIA1 P t x i) (slE (P.underlying t))
theorem xbIndexAddr_good (t : Nat) (x i : Operand) : Good (xbIndexAddr P t x i).f (cIndexAddr P t x i) := by
  unfold xbIndexAddr
  cases hu : slE (P.underlying t) with
  | none => exact kSlow_good _
  | some e =>
    have hu' : P.underlying t = some (.slice e) := by
      unfold slE at hu
      split at hu
      · injection hu with hu; subst hu; assumption
      · cases hu
    show Good (xbIA1 P t x i e).f _
    unfold xbIA1
    cases hk : posT P e with
    | false => exact kSlow_good _
    | true =>
      refine fun T h next slow hs => kO_good hs fun v hv => ?_
      rw [opd_eq, opd_eq] at hv
      unfold iaF at hv
      cases hp : (ev P T x).vr with
      | no => rw [hp] at hv; exact nomatch (show none = some v from hv)
      | v b off n cap =>
        rw [hp] at hv
        have hv : iaV (szOf P e) (ev P T i) b off n cap = some v := hv
        unfold iaV at hv
        cases hi : (ev P T i).nr with
        | none => rw [hi] at hv; exact nomatch (show none = some v from hv)
        | some j =>
          rw [hi] at hv
          have hv : cond (Nat.blt j n) (forceN (Nat.add off (Nat.mul j (szOf P e))) (faP b)) none = some v := hv
          cases hb : Nat.blt j n with
          | false => rw [hb] at hv; cases hv
          | true =>
            rw [hb] at hv
            have hv : forceN (Nat.add off (Nat.mul j (szOf P e))) (faP b) = some v := hv
            rw [forceN_eqF] at hv
            injection hv with hv
            subst hv
            obtain ⟨k, hj⟩ := AV.nr_is hi
            show xIndexAddr P t (ev P T x) (ev P T i) h = _
            rw [AV.vr_is hp, hj]
            show cond (Nat.blt j n) (match P.underlying t with | some (.slice e) => cond (posT P e) (forceN (off + j * szOf P e) (fun o => Res.val (.ptr b o) h)) (Res.bad "indexAddr") | _ => Res.bad "indexAddr") _ = _
            rw [hb, hu']
            show cond (posT P e) (forceN (off + j * szOf P e) (fun o => Res.val (.ptr b o) h)) _ = _
            rw [hk, forceN_eqF]; rfl
def u8O (c : Nat) : Option AV := some (.int .u8 (.ofNat c))
noncomputable def ixN (l c i : Nat) : Option AV := cond (Nat.blt i l) (forceN (Nat.mod (Nat.shiftRight c (Nat.mul 8 i)) 256) u8O) none
noncomputable def ixS (y : AV) (l c : Nat) : Option AV := Option.rec (motive := fun _ => Option AV) none (ixN l c) y.nr
noncomputable def ixF (x y : AV) : Option AV := SR.rec (motive := fun _ => Option AV) none (ixS y) x.sr
noncomputable def xbIndex (t : Nat) (x i : Operand) : XB := cond (isStrT P t) ⟨kF2 ixF (cIndex P t x i) (opd P x).g (opd P i).g⟩ (xSlow (cIndex P t x i))
theorem xbIndex_good (t : Nat) (x i : Operand) : Good (xbIndex P t x i).f (cIndex P t x i) := by
  unfold xbIndex
  cases hk : isStrT P t with
  | false => exact kSlow_good _
  | true =>
    refine fun T h next slow hs => kO_good hs fun v hv => ?_
    rw [opd_eq, opd_eq] at hv
    unfold ixF at hv
    cases hp : (ev P T x).sr with
    | no => rw [hp] at hv; exact nomatch (show none = some v from hv)
    | s l c =>
      rw [hp] at hv
      have hv : ixS (ev P T i) l c = some v := hv
      unfold ixS at hv
      cases hi : (ev P T i).nr with
      | none => rw [hi] at hv; exact nomatch (show none = some v from hv)
      | some j =>
        rw [hi] at hv
        have hv : cond (Nat.blt j l) (forceN (Nat.mod (Nat.shiftRight c (Nat.mul 8 j)) 256) u8O) none = some v := hv
        cases hb : Nat.blt j l with
        | false => rw [hb] at hv; cases hv
        | true =>
          rw [hb] at hv
          have hv : forceN (Nat.mod (Nat.shiftRight c (Nat.mul 8 j)) 256) u8O = some v := hv
          rw [forceN_eqF] at hv
          injection hv with hv
          subst hv
          obtain ⟨k, hj⟩ := AV.nr_is hi
          show xIndexC P t (ev P T x) (ev P T i) h = _
          rw [AV.sr_is hp, hj]
          show cond (isStrT P t) (cond (Nat.blt j l) (forceN (Nat.mod (Nat.shiftRight c (8 * j)) 256) (fun c => Res.val (.int .u8 (Int.ofNat c)) h)) _) _ = _
          rw [hk, hb]
          show forceN (Nat.mod (Nat.shiftRight c (8 * j)) 256) (fun c => Res.val (.int .u8 (Int.ofNat c)) h) = _
          rw [forceN_eqF]; rfl
/-! a store of one cell -/
noncomputable def consO (x : AV) (o : Option (List AV)) : Option (List AV) := Option.rec (motive := fun _ => Option (List AV)) none (fun l => some (x :: l)) o
noncomputable def setS1 (v x : AV) (r : List AV) (ih : Nat → Option (List AV)) (n : Nat) : Option (List AV) := Nat.rec (motive := fun _ => Option (List AV)) (some (v :: r)) (fun m _ => consO x (ih m)) n
noncomputable def setNth (v : AV) (l : List AV) : Nat → Option (List AV) := List.rec (motive := fun _ => Nat → Option (List AV)) (fun _ => none) (fun x r ih => setS1 v x r ih) l
theorem setNth_some {v : AV} : ∀ {l : List AV} {n : Nat} {l' : List AV}, setNth v l n = some l' → Nat.ble (n + 1) (len l) = true ∧ l' = splice l n [v]
  | [], n, l', h => nomatch (show none = some l' from h)
  | x :: r, 0, l', h => by
    have h : some (v :: r) = some l' := h
    injection h with h; subst h
    exact ⟨by show Nat.ble 1 (len r + 1) = true; exact Nat.ble_eq.mpr (by omega), rfl⟩
  | x :: r, n + 1, l', h => by
    have h : consO x (setNth v r n) = some l' := h
    cases hr : setNth v r n with
    | none => rw [hr] at h; exact nomatch (show none = some l' from h)
    | some l2 =>
      rw [hr] at h
      have h : some (x :: l2) = some l' := h
      injection h with h; subst h
      obtain ⟨h1, h2⟩ := setNth_some hr
      refine ⟨?_, ?_⟩
      · have := Nat.ble_eq.mp h1
        show Nat.ble (n + 1 + 1) (len r + 1) = true
        exact Nat.ble_eq.mpr (by omega)
      · rw [h2]; rfl
noncomputable def stPut (h : Heap) (b : Key) (e : Nat) (o : Bool) (fz : Nat) (cs : List AV) : Option Heap := some ⟨h.t.set (.cells e cs o fz) b, h.next⟩
noncomputable def stCells (h : Heap) (b : Key) (off : Nat) (v : AV) (e : Nat) (cs : List AV) (o : Bool) (fz : Nat) : Option Heap := cond (Nat.ble fz off) (Option.rec (motive := fun _ => Option Heap) none (stPut h b e o fz) (setNth v cs off)) none
noncomputable def stObj (h : Heap) (b : Key) (off : Nat) (v : AV) (o : AObj) : Option Heap := AObj.rec (motive := fun _ => Option Heap) (stCells h b off v) (fun _ _ => none) none (fun _ _ => none) (fun _ _ _ => none) (fun _ _ _ _ => none) (fun _ _ _ _ _ _ _ _ => none) (fun _ => none) o
noncomputable def store1 (h : Heap) (v : AV) (b : Key) (off : Nat) : Option Heap := Option.rec (motive := fun _ => Option Heap) none (stObj h b off v) (h.t.get b)
theorem store1_some {h h' : Heap} {v : AV} {b : Key} {off : Nat} (hv : v.one = true) (hs : store1 h v b off = some h') : setCells h b off v.cells = some h' := by
  have hc : v.cells = [v] := by cases v <;> first | rfl | cases hv
  rw [hc]
  obtain ⟨t, nx⟩ := h
  have hs : Option.rec (motive := fun _ => Option Heap) none (stObj ⟨t, nx⟩ b off v) (t.get b) = some h' := hs
  show (match t.get b with
    | some (.cells e cs o fz) => cond (Nat.ble (off + 1) (len cs)) (cond (allOne [v]) (cond (Nat.ble fz off) (some (Heap.put ⟨t, nx⟩ b (.cells e (splice cs off [v]) o fz))) none) none) none
    | _ => none) = some h'
  cases hg : t.get b with
  | none => rw [hg] at hs; exact nomatch (show none = some h' from hs)
  | some o =>
    rw [hg] at hs
    have hs : stObj ⟨t, nx⟩ b off v o = some h' := hs
    cases o with
    | cells e cs op fz =>
      have hs : cond (Nat.ble fz off) (Option.rec (motive := fun _ => Option Heap) none (stPut ⟨t, nx⟩ b e op fz) (setNth v cs off)) none = some h' := hs
      cases hf : Nat.ble fz off with
      | false => rw [hf] at hs; cases hs
      | true =>
        rw [hf] at hs
        have hs : Option.rec (motive := fun _ => Option Heap) none (stPut ⟨t, nx⟩ b e op fz) (setNth v cs off) = some h' := hs
        cases hn : setNth v cs off with
        | none => rw [hn] at hs; exact nomatch (show none = some h' from hs)
        | some l =>
          rw [hn] at hs
          obtain ⟨h1, rfl⟩ := setNth_some hn
          have h3 : allOne [v] = true := by show cond v.one true false = true; rw [hv]; rfl
          show cond (Nat.ble (off + 1) (len cs)) (cond (allOne [v]) (cond (Nat.ble fz off) (some (Heap.put ⟨t, nx⟩ b (.cells e (splice cs off [v]) op fz))) none) none) none = some h'
          rw [h1, h3, hf]; exact hs
    | _ => exact nomatch (show none = some h' from hs)
def kU (next : AV → Heap → St) (h : Heap) : St := next .undef h
noncomputable def kOH (g : XF) (T : Slots) (h : Heap) (next : AV → Heap → St) (slow : Res → St) (o : Option Heap) : St := Option.rec (motive := fun _ => St) (slow (g T h)) (kU next) o
noncomputable def stF (h : Heap) (a v : AV) : Option Heap := cond v.oneF (PR.rec (motive := fun _ => Option Heap) none (store1 h v) a.pr) none
noncomputable def kStore (g : XF) (x y : Slots → AV) : XK := fun T h next slow => kOH g T h next slow (stF h (x T) (y T))
noncomputable def xbStore (t : Nat) (a v : Operand) : XB := cond (and (known P t) (Nat.beq 1 (szOf P t))) ⟨kStore (cStore P t a v) (opd P a).g (opd P v).g⟩ (xSlow (cStore P t a v))
theorem xbStore_good (t : Nat) (a v : Operand) : Good (xbStore P t a v).f (cStore P t a v) := by
  unfold xbStore
  cases hk : and (known P t) (Nat.beq 1 (szOf P t)) with
  | false => exact kSlow_good _
  | true =>
    refine fun T h next slow hs => ?_
    show kOH (cStore P t a v) T h next slow (stF h ((opd P a).g T) ((opd P v).g T)) = _
    rw [opd_eq, opd_eq]
    cases ho : stF h (ev P T a) (ev P T v) with
    | none => rfl
    | some h' =>
      show next .undef h' = _
      unfold stF at ho
      rw [AV.oneF_eq] at ho
      cases h1 : (ev P T v).one with
      | false => rw [h1] at ho; cases ho
      | true =>
        rw [h1] at ho
        have ho : PR.rec (motive := fun _ => Option Heap) none (store1 h (ev P T v)) (ev P T a).pr = some h' := ho
        cases hp : (ev P T a).pr with
        | no => rw [hp] at ho; exact nomatch (show none = some h' from ho)
        | p b off =>
          rw [hp] at ho
          have ho := store1_some h1 ho
          have hl : len (ev P T v).cells = 1 := by
            have : ∀ x : AV, x.one = true → len x.cells = 1 := fun x hx => by cases x <;> first | rfl | cases hx
            exact this _ h1
          have : cStore P t a v T h = .val .undef h' := by
            show xStore P t (ev P T a) (ev P T v) h = _
            rw [AV.pr_is hp]
            show cond (and (known P t) (Nat.beq (len (ev P T v).cells) (szOf P t))) (match setCells h b off (ev P T v).cells with | some h => Res.val .undef h | none => Res.bad "store") _ = _
            rw [hl, hk, ho]; rfl
          rw [this, hs]
/-! a length -/
noncomputable def lenS (_ : Heap) (v : AV) : Option AV := SR.rec (motive := fun _ => Option AV) none (fun l _ => some (.int .i64 (.ofNat l))) v.sr
noncomputable def lenV (_ : Heap) (v : AV) : Option AV := VR.rec (motive := fun _ => Option AV) none (fun _ _ l _ => some (.int .i64 (.ofNat l))) v.vr
noncomputable def lenB (d : Option TypeDesc) : HB := match d with
  | some .string => ⟨lenS⟩
  | some (.slice _) => ⟨lenV⟩
  | _ => ⟨noneH⟩
theorem lenB_ok {t : Nat} {h : Heap} {x v : AV} (hv : (lenB (P.underlying t)).f h x = some v) : xLen P t x h = .val v h := by
  unfold xLen
  cases hu : P.underlying t with
  | none => rw [hu] at hv; exact nomatch (show none = some v from hv)
  | some d =>
    rw [hu] at hv
    cases d
    case string =>
      have hv : lenS h x = some v := hv
      unfold lenS at hv
      cases hp : x.sr with
      | no => rw [hp] at hv; exact nomatch (show none = some v from hv)
      | s l c =>
        rw [hp] at hv
        have hv : some (AV.int .i64 (.ofNat l)) = some v := hv
        injection hv with hv; subst hv
        rw [AV.sr_is hp]
    case slice e =>
      have hv : lenV h x = some v := hv
      unfold lenV at hv
      cases hp : x.vr with
      | no => rw [hp] at hv; exact nomatch (show none = some v from hv)
      | v b o l c =>
        rw [hp] at hv
        have hv : some (AV.int .i64 (.ofNat l)) = some v := hv
        injection hv with hv; subst hv
        rw [AV.vr_is hp]
    all_goals exact nomatch (show none = some v from hv)
def isLen (b : Builtin) : Bool := match b with | .len => true | _ => false
noncomputable def lenOf (c : Call) (ts : List Nat) (args : List Operand) : XB := match ts, args with
  | t :: _, [x] => ⟨kF1 (lenB (P.underlying t)).f (cCall P c) (opd P x).g⟩
  | _, _ => xSlow (cCall P c)
noncomputable def xbCall (c : Call) : XB := match c.callee with
  | .builtin .len => lenOf P c c.argTypes.toList c.args.toList
  | _ => xSlow (cCall P c)
end
end Go.VM
namespace Go.VM
section
variable (P : Program)
theorem xbCall_good (c : Call) : Good (xbCall P c).f (cCall P c) := by
  unfold xbCall
  split
  · rename_i hc
    unfold lenOf
    split
    · rename_i t ts x ht hx
      refine kF1_good P fun T h v hv => ?_
      have hv := lenB_ok P hv
      obtain ⟨cl, as, tys⟩ := c
      have hc : cl = .builtin .len := hc
      subst hc
      have ht : tys.toList = t :: ts := ht
      have hx : as.toList = [x] := hx
      show xBuiltin P .len tys.toList (evs P T as.toList) h = _
      rw [ht, hx]
      exact hv
    · exact kSlow_good _
  · exact kSlow_good _
noncomputable def xb1 {α : Type} (f : α → XF) (a : α) : XB := xSlow (f a)
noncomputable def xb2 {α β : Type} (f : α → β → XF) (a : α) (b : β) : XB := xSlow (f a b)
noncomputable def xb3 {α β γ : Type} (f : α → β → γ → XF) (a : α) (b : β) (c : γ) : XB := xSlow (f a b c)
noncomputable def xb4 {α β γ δ : Type} (f : α → β → γ → δ → XF) (a : α) (b : β) (c : γ) (d : δ) : XB := xSlow (f a b c d)
noncomputable def xb5 {α β γ δ ε : Type} (f : α → β → γ → δ → ε → XF) (a : α) (b : β) (c : γ) (d : δ) (e : ε) : XB := xSlow (f a b c d e)
/-- an operation, as far as the program's text says it -/
noncomputable def execB (o : Op) : XB := Op.rec (motive := fun _ => XB)
  (xbMove P) (xbMove P) (xb3 (cPick P)) (xb1 (cAlloc P)) (xb2 (cBox P)) (xb2 (cBuild P)) (xb3 (cBuildSlice P)) (xb4 (cMapUpdate P)) (xbLoad P) (xbStore P) (xb1 no1) (xb1 no1) (xbNil P) (xbBin P) (xbUn P) (xb3 (cConvert P)) (xb2 no2)
  (xb2 (cIface P)) (xb3 (cFunc P)) (xb2 (cMakeMap P)) (xb2 no2) (xb3 (cMakeSlice P)) (xb5 (cSlice P)) (xbFieldAddr P) (xb3 (cField P)) (xbIndexAddr P) (xbIndex P) (xb4 (cLookup P)) (xb4 (cMapUpdate P)) (xb3 no3) (xb4 no4)
  (xb2 (cRange P)) (xb2 (cNext P)) (xb1 (cEntry P)) (xb4 (cAssert P)) (xbExtract P) (xbCall P) (xb1 no1) (xb1 (cDefer P)) (xb1 (cPanic P)) (xb2 no2) (xb3 no3) (xb2 no2) o
theorem execB_good (o : Op) : Good (execB P o).f (execA P o) := by
  cases o
  case move x => exact xbMove_good P x
  case assign x => exact xbMove_good P x
  case load t x => exact xbLoad_good P t x
  case store t a v => exact xbStore_good P t a v
  case nilCheck x => exact xbNil_good P x
  case binOp op t x y u => exact xbBin_good P op t x y u
  case unOp op t x => exact xbUn_good P op t x
  case fieldAddr s x f => exact xbFieldAddr_good P s x f
  case indexAddr t x i => exact xbIndexAddr_good P t x i
  case index t x i => exact xbIndex_good P t x i
  case extract x i => exact xbExtract_good P x i
  case call c => exact xbCall_good P c
  all_goals exact kSlow_good _
/-! what a mask does not reach -/
def keepsT (es : List Nat) : Nat → List Oper → Nat → Bool
  | _, [], _ => true
  | i, o :: r, t => cond (match o.dst with | some d => Nat.beq d t | none => false) (cond (elemN i es) (keepsT es (i + 1) r t) false) (keepsT es (i + 1) r t)
theorem keepsT_spec {es : List Nat} {t : Nat} : ∀ {s : Nat} {ops : List Oper}, keepsT es s ops t = true → ∀ i o, ops[i]? = some o → o.dst = some t → elemN (s + i) es = true
  | s, [], _, i, o, ho, _ => by simp at ho
  | s, p :: ops, h, i, o, ho, hd => by
    unfold keepsT at h
    cases i with
    | zero =>
      simp at ho; subst ho
      rw [hd] at h
      have h : cond (Nat.beq t t) (cond (elemN s es) (keepsT es (s + 1) ops t) false) (keepsT es (s + 1) ops t) = true := h
      rw [Nat.beq_refl] at h
      rw [Nat.add_zero]
      cases he : elemN s es with
      | true => rfl
      | false => rw [he] at h; cases h
    | succ i =>
      have hr : keepsT es (s + 1) ops t = true := by
        generalize (match p.dst with | some d => Nat.beq d t | none => false) = b at h
        cases b with
        | false => exact h
        | true => cases he : elemN s es with
          | true => rw [he] at h; exact h
          | false => rw [he] at h; cases h
      have := keepsT_spec hr i o (by simpa using ho) hd
      rw [show s + (i + 1) = s + 1 + i by omega]; exact this
theorem get_mask {es : List Nat} {all : List Oper} {t : Nat} (h : keepsT es 0 all t = true) (T : Slots) : (maskT es all T).get t = T.get t := by
  obtain ⟨n, r⟩ := T
  exact maskGo_keep es all 0 n t r (fun i o ho hd => keepsT_spec h i o ho hd)
def freeX (es : List Nat) (all : List Oper) (x : Operand) : Bool := match x with
  | .tmp t => keepsT es 0 all t
  | _ => true
def freeXs (es : List Nat) (all : List Oper) : List Operand → Bool
  | [] => true
  | x :: r => cond (freeX es all x) (freeXs es all r) false
def freePs (es : List Nat) (all : List Oper) : List (Nat × Operand) → Bool
  | [] => true
  | x :: r => cond (freeX es all x.2) (freePs es all r) false
def freeM (es : List Nat) (all : List Oper) (x : Option Operand) : Bool := match x with
  | none => true
  | some x => freeX es all x
section
variable {es : List Nat} {all : List Oper} {T : Slots} {hp : Heap}
theorem ev_mask {x : Operand} (h : freeX es all x = true) : ev P (maskT es all T) x = ev P T x := by
  cases x
  case tmp t => exact get_mask h T
  all_goals rfl
theorem evs_mask : ∀ {xs : List Operand}, freeXs es all xs = true → evs P (maskT es all T) xs = evs P T xs
  | [], _ => rfl
  | x :: r, h => by
    unfold freeXs at h
    cases hx : freeX es all x with
    | false => rw [hx] at h; cases h
    | true =>
      rw [hx] at h
      show ev P (maskT es all T) x :: evs P (maskT es all T) r = ev P T x :: evs P T r
      rw [ev_mask P hx, evs_mask h]
theorem evps_mask : ∀ {xs : List (Nat × Operand)}, freePs es all xs = true → evps P (maskT es all T) xs = evps P T xs
  | [], _ => rfl
  | x :: r, h => by
    unfold freePs at h
    cases hx : freeX es all x.2 with
    | false => rw [hx] at h; cases h
    | true =>
      rw [hx] at h
      show (x.1, ev P (maskT es all T) x.2) :: evps P (maskT es all T) r = (x.1, ev P T x.2) :: evps P T r
      rw [ev_mask P hx, evps_mask h]
theorem omap_mask {x : Option Operand} (h : freeM es all x = true) : omap P (maskT es all T) x = omap P T x := by
  cases x with
  | none => rfl
  | some x => show some (ev P (maskT es all T) x) = some (ev P T x); rw [ev_mask P h]
end
def freeC (es : List Nat) (all : List Oper) (c : Call) : Bool := match c.callee with
  | .value f => and (freeX es all f) (freeXs es all c.args.toList)
  | .builtin _ => freeXs es all c.args.toList
  | _ => false
/-- the operation looks at nothing that the mask covers -/
def freeOp (es : List Nat) (all : List Oper) (op : Op) : Bool := match op with
  | .move x => freeX es all x
  | .assign x => freeX es all x
  | .pick c a b => and (freeX es all c) (and (freeX es all a) (freeX es all b))
  | .alloc _ => true
  | .box _ v => freeX es all v
  | .build _ ps => freePs es all ps.toList
  | .buildSlice _ _ ps => freePs es all ps.toList
  | .load _ a => freeX es all a
  | .store _ a v => and (freeX es all a) (freeX es all v)
  | .nilCheck x => freeX es all x
  | .binOp _ _ x y _ => and (freeX es all x) (freeX es all y)
  | .unOp _ _ x => freeX es all x
  | .convert _ _ x => freeX es all x
  | .makeInterface _ x => freeX es all x
  | .makeFunc _ a b => and (freeXs es all a.toList) (freeXs es all b.toList)
  | .makeMap _ r => freeM es all r
  | .makeSlice _ l c => and (freeX es all l) (freeX es all c)
  | .slice _ x lo hi mx => and (freeX es all x) (and (freeM es all lo) (and (freeM es all hi) (freeM es all mx)))
  | .fieldAddr _ x _ => freeX es all x
  | .field _ x _ => freeX es all x
  | .indexAddr _ x i => and (freeX es all x) (freeX es all i)
  | .index _ x i => and (freeX es all x) (freeX es all i)
  | .lookup _ x k _ => and (freeX es all x) (freeX es all k)
  | .mapUpdate _ m k v => and (freeX es all m) (and (freeX es all k) (freeX es all v))
  | .typeAssert x _ _ _ => freeX es all x
  | .extract x _ => freeX es all x
  | .call c => freeC es all c
  | _ => false
theorem execA_mask {es : List Nat} {all : List Oper} {T : Slots} {hp : Heap} {op : Op} (h : freeOp es all op = true) : execA P op (maskT es all T) hp = execA P op T hp := by
  have and3 : ∀ {a b c : Bool}, and a (and b c) = true → a = true ∧ b = true ∧ c = true := fun h => by simpa [Bool.and_eq_true] using h
  have and2 : ∀ {a b : Bool}, and a b = true → a = true ∧ b = true := fun h => by simpa [Bool.and_eq_true] using h
  cases op
  case move x => have h : freeX es all x = true := h; show Res.val (ev P (maskT es all T) x) hp = _; rw [ev_mask P h]; rfl
  case assign x => have h : freeX es all x = true := h; show Res.val (ev P (maskT es all T) x) hp = _; rw [ev_mask P h]; rfl
  case pick c a b => obtain ⟨h1, h2, h3⟩ := and3 (show and (freeX es all c) (and (freeX es all a) (freeX es all b)) = true from h); show xPick (ev P (maskT es all T) c) (ev P (maskT es all T) a) (ev P (maskT es all T) b) hp = _; rw [ev_mask P h1, ev_mask P h2, ev_mask P h3]; rfl
  case alloc e => rfl
  case box e v => have h : freeX es all v = true := h; show xBox e (ev P (maskT es all T) v) hp = _; rw [ev_mask P h]; rfl
  case build t ps => have h : freePs es all ps.toList = true := h; show xBuild P t (evps P (maskT es all T) ps.toList) hp = _; rw [evps_mask P h]; rfl
  case buildSlice t n ps => have h : freePs es all ps.toList = true := h; show xBuildSlice P t n (evps P (maskT es all T) ps.toList) hp = _; rw [evps_mask P h]; rfl
  case load t a => have h : freeX es all a = true := h; show xLoad P t (ev P (maskT es all T) a) hp = _; rw [ev_mask P h]; rfl
  case store t a v => obtain ⟨h1, h2⟩ := and2 (show and (freeX es all a) (freeX es all v) = true from h); show xStore P t (ev P (maskT es all T) a) (ev P (maskT es all T) v) hp = _; rw [ev_mask P h1, ev_mask P h2]; rfl
  case nilCheck x => have h : freeX es all x = true := h; show xNil (ev P (maskT es all T) x) hp = _; rw [ev_mask P h]; rfl
  case binOp o t x y u => obtain ⟨h1, h2⟩ := and2 (show and (freeX es all x) (freeX es all y) = true from h); show xBin P o t (or (isC x) (isC y)) (ev P (maskT es all T) x) (ev P (maskT es all T) y) hp = _; rw [ev_mask P h1, ev_mask P h2]; rfl
  case unOp o t x => have h : freeX es all x = true := h; show xUn P o (ev P (maskT es all T) x) hp = _; rw [ev_mask P h]; rfl
  case convert s d x => have h : freeX es all x = true := h; show xConvert P s d (ev P (maskT es all T) x) hp = _; rw [ev_mask P h]; rfl
  case makeInterface t x => have h : freeX es all x = true := h; show cond (notIface P t) (Res.val (.iface t (ev P (maskT es all T) x)) hp) _ = _; rw [ev_mask P h]; rfl
  case makeFunc f a b => obtain ⟨h1, h2⟩ := and2 (show and (freeXs es all a.toList) (freeXs es all b.toList) = true from h); show xFunc f (evs P (maskT es all T) a.toList) (evs P (maskT es all T) b.toList) hp = _; rw [evs_mask P h1, evs_mask P h2]; rfl
  case makeMap t r => have h : freeM es all r = true := h; show cond (hintOk P t (omap P (maskT es all T) r)) _ _ = _; rw [omap_mask P h]; rfl
  case makeSlice t l c => obtain ⟨h1, h2⟩ := and2 (show and (freeX es all l) (freeX es all c) = true from h); show xMakeSlice P t (ev P (maskT es all T) l) (ev P (maskT es all T) c) hp = _; rw [ev_mask P h1, ev_mask P h2]; rfl
  case slice t x lo hi mx =>
    obtain ⟨h1, h2, h34⟩ := and3 (show and (freeX es all x) (and (freeM es all lo) (and (freeM es all hi) (freeM es all mx))) = true from h)
    obtain ⟨h3, h4⟩ := and2 h34
    show xSlice P t (ev P (maskT es all T) x) (omap P (maskT es all T) lo) (omap P (maskT es all T) hi) (omap P (maskT es all T) mx) hp = _
    rw [ev_mask P h1, omap_mask P h2, omap_mask P h3, omap_mask P h4]; rfl
  case fieldAddr s x f => have h : freeX es all x = true := h; show xFieldAddr P s f (ev P (maskT es all T) x) hp = _; rw [ev_mask P h]; rfl
  case field s x f => have h : freeX es all x = true := h; show xField P s f (ev P (maskT es all T) x) hp = _; rw [ev_mask P h]; rfl
  case indexAddr t x i => obtain ⟨h1, h2⟩ := and2 (show and (freeX es all x) (freeX es all i) = true from h); show xIndexAddr P t (ev P (maskT es all T) x) (ev P (maskT es all T) i) hp = _; rw [ev_mask P h1, ev_mask P h2]; rfl
  case index t x i => obtain ⟨h1, h2⟩ := and2 (show and (freeX es all x) (freeX es all i) = true from h); show xIndexC P t (ev P (maskT es all T) x) (ev P (maskT es all T) i) hp = _; rw [ev_mask P h1, ev_mask P h2]; rfl
  case lookup t x k c => obtain ⟨h1, h2⟩ := and2 (show and (freeX es all x) (freeX es all k) = true from h); show xLookup P t (ev P (maskT es all T) x) (ev P (maskT es all T) k) c hp = _; rw [ev_mask P h1, ev_mask P h2]; rfl
  case mapUpdate t m k v => obtain ⟨h1, h2, h3⟩ := and3 (show and (freeX es all m) (and (freeX es all k) (freeX es all v)) = true from h); show xMapUpdate P t (ev P (maskT es all T) m) (ev P (maskT es all T) k) (ev P (maskT es all T) v) hp = _; rw [ev_mask P h1, ev_mask P h2, ev_mask P h3]; rfl
  case typeAssert x a b c => have h : freeX es all x = true := h; show xAssert P (ev P (maskT es all T) x) b c hp = _; rw [ev_mask P h]; rfl
  case extract x i => have h : freeX es all x = true := h; show xExtract (ev P (maskT es all T) x) i hp = _; rw [ev_mask P h]; rfl
  case call c =>
    obtain ⟨cl, as, ts⟩ := c
    cases cl
    case value f =>
      obtain ⟨h1, h2⟩ := and2 (show and (freeX es all f) (freeXs es all as.toList) = true from h)
      show xCallV (ev P (maskT es all T) f) (evs P (maskT es all T) as.toList) hp = _
      rw [ev_mask P h1, evs_mask P h2]; rfl
    case builtin b =>
      have h : freeXs es all as.toList = true := h
      show xBuiltin P b ts.toList (evs P (maskT es all T) as.toList) hp = _
      rw [evs_mask P h]; rfl
    all_goals cases h
  all_goals cases h
def freeG (es : List Nat) (all : List Oper) (g : Option (Nat × Bool)) (d : Option Nat) : Bool := match g, d with
  | none, _ => true
  | some _, none => true
  | some _, some d => keepsT es 0 all d
def gDst (all : List Oper) (g : Option (Nat × Bool)) : Option Nat := match g with
  | none => none
  | some g => (all[g.1]?).bind (·.dst)
noncomputable def gDstA (all : List Oper) (g : Option (Nat × Bool)) : Option Nat := Option.rec (motive := fun _ => Option Nat) none (fun g => dstAt all g.1) g
theorem guardA_mask {es : List Nat} {all : List Oper} {T : Slots} {g : Option (Nat × Bool)} (h : freeG es all g (gDstA all g) = true) : guardA g all (maskT es all T) = guardA g all T := by
  cases g with
  | none => rfl
  | some g =>
    have h : freeG es all (some g) (dstAt all g.1) = true := h
    show Option.rec (motive := fun _ => Option Bool) none (fun d => guardV ((maskT es all T).get d) g.2) (dstAt all g.1) = Option.rec (motive := fun _ => Option Bool) none (fun d => guardV (T.get d) g.2) (dstAt all g.1)
    cases hd : dstAt all g.1 with
    | none => rfl
    | some d =>
      rw [hd] at h
      have h : keepsT es 0 all d = true := h
      show guardV ((maskT es all T).get d) g.2 = guardV (T.get d) g.2
      rw [get_mask h]
noncomputable def freeO (all : List Oper) (o : Oper) : Bool := and (freeOp (edgesOf o) all o.op) (freeG (edgesOf o) all o.guard (gDstA all o.guard))
/-! results -/
variable [Hook]
noncomputable def uE (T : Slots) (k : List AItem) (c : Ctx) (f : Nat) (args : List AV) (h : Heap) : St := uEnter P f args h T k c
noncomputable def uR (T : Slots) (k : List AItem) (c : Ctx) (l : Key) (args : List AV) (h : Heap) : St := uRound P l args h T k c
noncomputable def uD (T : Slots) (k : List AItem) (c : Ctx) (d : ADef) (h : Heap) : St := uDefer d h T k c
noncomputable def uV (T : Slots) (k : List AItem) (c : Ctx) (h : Heap) : St := uRecover h T k c
noncomputable def uP (T : Slots) (k : List AItem) (c : Ctx) (v : AV) (h : Heap) : St := uPan v h T k c
def uA (T : Slots) (k : List AItem) (c : Ctx) (l : List (AV × Heap)) : St := .alt l T k c
noncomputable def uponF (r : Res) (T : Slots) (k : List AItem) (c : Ctx) (next : AV → Heap → St) : St :=
  Res.rec (motive := fun _ => St) next (uE P T k c) (uR P T k c) (uD T k c) (uV T k c) (uP T k c) (uA T k c) St.bad r
theorem uponF_eq (r : Res) (T : Slots) (k : List AItem) (c : Ctx) (next : AV → Heap → St) : uponF P r T k c next = upon P r T k c next := by cases r <;> rfl
structure RB where
  f : List AItem → Ctx → Slots → Heap → St
def nilR (k : List AItem) (c : Ctx) (T : Slots) (h : Heap) : St := .go T k c h
def badR (w : String) (_ : List AItem) (_ : Ctx) (_ : Slots) (_ : Heap) : St := .bad w
def kR' (ih : RB) (k : List AItem) (c : Ctx) (T : Slots) (h : Heap) : St := ih.f k c T h
noncomputable def pN (ih : RB) (k : List AItem) (c : Ctx) (h : Heap) (d : Nat) (v : AV) (n : Nat) (t : ST) : St := Bool.rec (motive := fun _ => St) (.bad "slot") (ih.f k c ⟨n, t.set v (keyOf d)⟩ h) (Nat.blt d n)
noncomputable def nextF (ih : RB) (k : List AItem) (c : Ctx) (T : Slots) (d : Nat) (v : AV) (h : Heap) : St := Slots.rec (motive := fun _ => St) (pN ih k c h d v) T
omit [Hook] in
theorem nextF_eq (ih : RB) (k : List AItem) (c : Ctx) (T : Slots) (d : Nat) (v : AV) (h : Heap) : nextF ih k c T d v h = putK T (some d) v (fun T => ih.f k c T h) := by
  obtain ⟨n, t⟩ := T
  show Bool.rec (motive := fun _ => St) (.bad "slot") (ih.f k c ⟨n, t.set v (keyOf d)⟩ h) (Nat.blt d n) = cond (Nat.blt d n) (ih.f k c ⟨n, t.set v (keyOf d)⟩ h) (.bad "slot")
  cases Nat.blt d n <;> rfl
noncomputable def slowF (it : AItem) (ih : RB) (k : List AItem) (c : Ctx) (T : Slots) (d : Nat) (r : Res) : St := uponF P r T (it :: k) c (nextF ih k c T d)
noncomputable def plainF (it : AItem) (ih : RB) (d : Nat) (x : XB) (k : List AItem) (c : Ctx) (T : Slots) (h : Heap) : St := x.f T h (nextF ih k c T d) (slowF P it ih k c T d)
def next0 (ih : RB) (k : List AItem) (c : Ctx) (T : Slots) (_ : AV) (h : Heap) : St := ih.f k c T h
noncomputable def slow0 (it : AItem) (ih : RB) (k : List AItem) (c : Ctx) (T : Slots) (r : Res) : St := uponF P r T (it :: k) c (next0 ih k c T)
noncomputable def plain0 (it : AItem) (ih : RB) (x : XB) (k : List AItem) (c : Ctx) (T : Slots) (h : Heap) : St := x.f T h (next0 ih k c T) (slow0 P it ih k c T)
noncomputable def conD (it : AItem) (o : Oper) (ih : RB) (d : Nat) : RB := ⟨plainF P it ih d (execB P o.op)⟩
noncomputable def conP (it : AItem) (o : Oper) (ih : RB) (d : Option Nat) : RB := Option.rec (motive := fun _ => RB) ⟨plain0 P it ih (execB P o.op)⟩ (conD P it o ih) d
noncomputable def skD (ih : RB) (d : Nat) : RB := ⟨fun k c T h => nextF ih k c T d .undef h⟩
noncomputable def skR (ih : RB) (d : Option Nat) : RB := Option.rec (motive := fun _ => RB) ih (skD ih) d
noncomputable def gdB (x y : RB) (k : List AItem) (c : Ctx) (T : Slots) (h : Heap) (b : Bool) : St := (Bool.rec (motive := fun _ => RB) x y b).f k c T h
noncomputable def gdF (all : List Oper) (g : Option (Nat × Bool)) (x y : RB) (k : List AItem) (c : Ctx) (T : Slots) (h : Heap) : St := Option.rec (motive := fun _ => St) (.bad "guard") (gdB x y k c T h) (guardA g all T)
noncomputable def conI (all : List Oper) (it : AItem) (o : Oper) (ih : RB) : RB := Option.rec (motive := fun _ => RB) (conP P it o ih o.dst) (fun _ => ⟨gdF all o.guard (skR ih o.dst) (conP P it o ih o.dst)⟩) o.guard
theorem conP_eq (it : AItem) (o : Oper) (ih : RB) (d : Option Nat) (k : List AItem) (c : Ctx) (T : Slots) (h : Heap) : (conP P it o ih d).f k c T h = upon P (execA P o.op T h) T (it :: k) c (fun v h => putK T d v (fun T => ih.f k c T h)) := by
  unfold conP
  cases d with
  | none =>
    show plain0 P it ih (execB P o.op) k c T h = _
    unfold plain0
    rw [execB_good P o.op T h (next0 ih k c T) (slow0 P it ih k c T) (fun v h => rfl)]
    unfold slow0
    rw [uponF_eq]
    rfl
  | some d =>
    show plainF P it ih d (execB P o.op) k c T h = _
    unfold plainF
    have hn : nextF ih k c T d = (fun v h => putK T (some d) v (fun T => ih.f k c T h)) := by funext v h; exact nextF_eq ih k c T d v h
    rw [execB_good P o.op T h (nextF ih k c T d) (slowF P it ih k c T d) (fun v h => rfl)]
    unfold slowF
    rw [uponF_eq, hn]
omit [Hook] in
theorem skR_eq (ih : RB) (d : Option Nat) (k : List AItem) (c : Ctx) (T : Slots) (h : Heap) : (skR ih d).f k c T h = putK T d .undef (fun T => ih.f k c T h) := by
  cases d with
  | none => rfl
  | some d => exact nextF_eq ih k c T d .undef h
theorem conI_eq (all : List Oper) (it : AItem) (o : Oper) (ih : RB) (k : List AItem) (c : Ctx) (T : Slots) (h : Heap) : (conI P all it o ih).f k c T h = oneOp P o it k c T T h (kR' ih k c) (guardA o.guard all T) := by
  unfold conI
  cases hg : o.guard with
  | none => exact conP_eq P it o ih o.dst k c T h
  | some g =>
    show Option.rec (motive := fun _ => St) (.bad "guard") (gdB (skR ih o.dst) (conP P it o ih o.dst) k c T h) (guardA (some g) all T) = oneOp P o it k c T T h (kR' ih k c) (guardA (some g) all T)
    cases guardA (some g) all T with
    | none => rfl
    | some b => cases b with
      | false => exact skR_eq ih o.dst k c T h
      | true => exact conP_eq P it o ih o.dst k c T h
noncomputable def conB (all : List Oper) (o : Oper) (rest : List Oper) (ih : RB) : RB := conI P all (.ops all (o :: rest)) o ih
noncomputable def regB (all rest : List Oper) : RB := List.rec (motive := fun _ => RB) ⟨nilR⟩ (conB P all) rest
theorem regB_eq (all : List Oper) (k : List AItem) (c : Ctx) : ∀ (rest : List Oper) (T : Slots) (h : Heap), (regB P all rest).f k c T h = stepOps P all k c rest T h
  | [], T, h => rfl
  | o :: rest, T, h => by
    have ih := regB_eq all k c rest
    have hk : kR' (regB P all rest) k c = stepOps P all k c rest := by funext T h; exact ih T h
    show (conI P all (.ops all (o :: rest)) o (regB P all rest)).f k c T h = oneOp P o (.ops all (o :: rest)) k c T T h (stepOps P all k c rest) (guardA o.guard all T)
    rw [conI_eq, hk]
/-! a region whose order is drawn -/
noncomputable def quickI (k : IntKind) (a : Int) (k' : IntKind) (b : Int) : Bool := Bool.rec (motive := fun _ => Bool) false (eqI a b) (Nat.beq (kNo k) (kNo k'))
noncomputable def quick1 (y : AV) (k : IntKind) (a : Int) : Bool := IR.rec (motive := fun _ => Bool) false (quickI k a) y.ir
noncomputable def quick (x y : AV) : Bool := IR.rec (motive := fun _ => Bool) false (quick1 y) x.ir
omit [Hook] in
theorem quick_ok {x y : AV} (h : quick x y = true) : beqA 60 x y = true := by
  unfold quick at h
  cases hx : x.ir with
  | no => rw [hx] at h; cases h
  | i k a =>
    rw [hx] at h
    have h : IR.rec (motive := fun _ => Bool) false (quickI k a) y.ir = true := h
    cases hy : y.ir with
    | no => rw [hy] at h; cases h
    | i k' b =>
      rw [hy] at h
      have h : Bool.rec (motive := fun _ => Bool) false (eqI a b) (Nat.beq (kNo k) (kNo k')) = true := h
      rw [AV.ir_is hx, AV.ir_is hy]
      show and (Nat.beq (kindNo k) (kindNo k')) (intEq a b) = true
      rw [kNo_eq, kNo_eq, eqI_eq] at h
      cases hb : Nat.beq (kindNo k) (kindNo k') with
      | false => rw [hb] at h; cases h
      | true => rw [hb] at h; exact h
noncomputable def beqF (x y : AV) : Bool := Bool.rec (motive := fun _ => Bool) (beqA 60 x y) true (quick x y)
omit [Hook] in
theorem beqF_eq (x y : AV) : beqF x y = beqA 60 x y := by
  unfold beqF
  cases hq : quick x y with
  | false => rfl
  | true => exact (quick_ok hq).symm
noncomputable def chB (ih : RB) (k : List AItem) (c : Ctx) (T : Slots) (h : Heap) (b : Bool) : St := Bool.rec (motive := fun _ => St) (.bad "an order that matters") (ih.f k c T h) b
noncomputable def chN (ih : RB) (k : List AItem) (c : Ctx) (T : Slots) (h : Heap) (d : Nat) (v : AV) (_ : Heap) : St := chB ih k c T h (beqF v (T.get d))
noncomputable def chS (ih : RB) (k : List AItem) (c : Ctx) (T : Slots) (h : Heap) (d : Nat) (r : Res) : St := chB ih k c T h (same r (T.get d))
noncomputable def chF (o : Oper) (ih : RB) (d : Nat) (k : List AItem) (c : Ctx) (T : Slots) (h : Heap) : St := (execB P o.op).f T h (chN ih k c T h d) (chS ih k c T h d)
noncomputable def chO (all : List Oper) (ih : RB) (o : Oper) (k : List AItem) (c : Ctx) (T : Slots) (h : Heap) : St := cond (chkO P o all T h) (ih.f k c T h) (.bad "an order that matters")
noncomputable def ch2 (all : List Oper) (ih : RB) (o : Oper) (d : Option Nat) : RB := Option.rec (motive := fun _ => RB) ⟨chO P all ih o⟩ (fun d => ⟨chF P o ih d⟩) d
noncomputable def ch1 (all : List Oper) (ih : RB) (o : Oper) (g : Option (Nat × Bool)) : RB := Option.rec (motive := fun _ => RB) (ch2 P all ih o o.dst) (fun _ => ⟨chO P all ih o⟩) g
noncomputable def ch0 (all : List Oper) (ih : RB) (o : Oper) : RB := Bool.rec (motive := fun _ => RB) ⟨chO P all ih o⟩ (ch1 P all ih o o.guard) (freeO all o)
omit [Hook] in
theorem ch0_eq (all : List Oper) (ih : RB) (o : Oper) (k : List AItem) (c : Ctx) (T : Slots) (h : Heap) : (ch0 P all ih o).f k c T h = chO P all ih o k c T h := by
  unfold ch0
  cases hf : freeO all o with
  | false => rfl
  | true =>
    show (ch1 P all ih o o.guard).f k c T h = _
    unfold ch1
    cases hg : o.guard with
    | some g => rfl
    | none =>
      show (ch2 P all ih o o.dst).f k c T h = _
      unfold ch2
      cases hd : o.dst with
      | none => rfl
      | some d =>
        show (execB P o.op).f T h (chN ih k c T h d) (chS ih k c T h d) = _
        have hs : ∀ v h', chS ih k c T h d (Res.val v h') = chN ih k c T h d v h' := fun v h' => by
          show chB ih k c T h (beqA 60 v (T.get d)) = chB ih k c T h (beqF v (T.get d))
          rw [beqF_eq]
        rw [execB_good P o.op T h _ _ hs]
        unfold freeO at hf
        simp only [Bool.and_eq_true] at hf
        have e : chkO P o all T h = same (execA P o.op T h) (T.get d) := by
          unfold chkO
          rw [hd, hg]
          show same (execA P o.op (maskT (edgesOf o) all T) h) (T.get d) = _
          rw [execA_mask P hf.1]
        unfold chO
        rw [e]
        show chB ih k c T h (same (execA P o.op T h) (T.get d)) = _
        unfold chB
        cases same (execA P o.op T h) (T.get d) <;> rfl
noncomputable def opMF (all : List Oper) (rest : List PStep) (i : Nat) (ih : RB) (o : Oper) (k : List AItem) (c : Ctx) (T : Slots) (h : Heap) : St := opM P o (.dops all (.op i :: rest)) all k c T h (kR' ih k c) (maskT (edgesOf o) all T)
noncomputable def op0 (all : List Oper) (rest : List PStep) (i : Nat) (ih : RB) (o : Oper) : RB := Bool.rec (motive := fun _ => RB) ⟨opMF P all rest i ih o⟩ (conI P all (.dops all (.op i :: rest)) o ih) (freeO all o)
theorem op0_eq (all : List Oper) (rest : List PStep) (i : Nat) (ih : RB) (o : Oper) (k : List AItem) (c : Ctx) (T : Slots) (h : Heap) : (op0 P all rest i ih o).f k c T h = opM P o (.dops all (.op i :: rest)) all k c T h (kR' ih k c) (maskT (edgesOf o) all T) := by
  unfold op0
  cases hf : freeO all o with
  | false => rfl
  | true =>
    show (conI P all (.dops all (.op i :: rest)) o ih).f k c T h = oneOp P o (.dops all (.op i :: rest)) k c (maskT (edgesOf o) all T) T h (kR' ih k c) (guardA o.guard all (maskT (edgesOf o) all T))
    unfold freeO at hf
    simp only [Bool.and_eq_true] at hf
    rw [conI_eq, guardA_mask hf.2]
    unfold oneOp
    rw [execA_mask P hf.1]
noncomputable def opB (all : List Oper) (rest : List PStep) (ih : RB) (i : Nat) : RB := Option.rec (motive := fun _ => RB) ⟨badR "plan"⟩ (op0 P all rest i ih) (operAt all i)
noncomputable def chkB (all : List Oper) (ih : RB) (i : Nat) : RB := Option.rec (motive := fun _ => RB) ⟨badR "plan"⟩ (ch0 P all ih) (operAt all i)
noncomputable def plS (all : List Oper) (s : PStep) (rest : List PStep) (ih : RB) : RB := PStep.rec (motive := fun _ => RB) (opB P all rest ih) (chkB P all ih) s
noncomputable def planB (all : List Oper) (plan : List PStep) : RB := List.rec (motive := fun _ => RB) ⟨nilR⟩ (plS P all) plan
theorem planB_eq (all : List Oper) (k : List AItem) (c : Ctx) : ∀ (plan : List PStep) (T : Slots) (h : Heap), (planB P all plan).f k c T h = stepPlan P all k c plan T h
  | [], T, h => rfl
  | s :: rest, T, h => by
    have ih := planB_eq all k c rest
    have hk : kR' (planB P all rest) k c = stepPlan P all k c rest := by funext T h; exact ih T h
    cases s with
    | op i =>
      show (opB P all rest (planB P all rest) i).f k c T h = opD P i rest all k c T h (stepPlan P all k c rest)
      unfold opB opD
      cases operAt all i with
      | none => rfl
      | some o => show (op0 P all rest i (planB P all rest) o).f k c T h = _; rw [op0_eq, hk]
    | chk i =>
      show (chkB P all (planB P all rest) i).f k c T h = chkD P i all T h (stepPlan P all k c rest)
      unfold chkB chkD
      cases operAt all i with
      | none => rfl
      | some o => show (ch0 P all (planB P all rest) o).f k c T h = cond (chkO P o all T h) (stepPlan P all k c rest T h) _; rw [ch0_eq, ← ih]; rfl
/-! code -/
structure SB where
  f : SF
noncomputable def bSkip : SB := ⟨sSkip⟩
noncomputable def rgF (all : List Oper) : SF := fun T k c h => (regB P all all).f k c T h
noncomputable def plF (all : List Oper) (p : List PStep) : SF := fun T k c h => (planB P all p).f k c T h
def noPl : SF := fun _ _ _ _ => .bad "no plan"
noncomputable def plB (all : List Oper) (p : List PStep) : SB := ⟨plF P all p⟩
noncomputable def bPlan (all : List Oper) : SB := Option.rec (motive := fun _ => SB) ⟨noPl⟩ (plB P all) (planOf P all)
noncomputable def bRegion (_ : Nat) (ops : Array Oper) (draw : Bool) : SB := Bool.rec (motive := fun _ => SB) ⟨rgF P ops.toList⟩ (bPlan P ops.toList) draw
def sqF (b : Code) (a : SB) : SF := fun T k c h => a.f T (.code b :: k) c h
def bSeq (_ b : Code) (a _ : SB) : SB := ⟨sqF b a⟩
noncomputable def cdB (a b : SB) (T : Slots) (k : List AItem) (c : Ctx) (h : Heap) (t : Bool) : St := (Bool.rec (motive := fun _ => SB) b a t).f T k c h
noncomputable def cdF (g : Slots → AV) (a b : SB) : SF := fun T k c h => BR.rec (motive := fun _ => St) (.bad "cond") (cdB a b T k c h) (g T).br
noncomputable def bCond (x : Operand) (_ _ : Code) (a b : SB) : SB := ⟨cdF (opd P x).g a b⟩
def blF (id : Nat) (b : SB) : SF := fun T k c h => b.f T (.inBlock id :: k) c h
def bBlock (id : Nat) (_ : Code) (b : SB) : SB := ⟨blF id b⟩
noncomputable def bLoop (b : Code) (_ : SB) : SB := ⟨sLoop b sSkip⟩
noncomputable def bScope (b : Code) (_ : SB) : SB := ⟨sScope b sSkip⟩
noncomputable def bRange (f : Operand) (ps : Array Nat) (a b : Code) (_ _ : SB) : SB := ⟨sRange P f ps a b sSkip sSkip⟩
noncomputable def bExit (id : Nat) : SB := ⟨sExit id⟩
noncomputable def bLabel (_ : Nat) : SB := ⟨sSkip⟩
noncomputable def bGoto (l : Nat) : SB := ⟨sGoto l⟩
noncomputable def bRet : SB := ⟨sRet⟩
noncomputable def bRefuse (w : String) : SB := ⟨sRefuse w⟩
noncomputable def codeB (c : Code) : SB := Code.rec (motive := fun _ => SB) bSkip (bRegion P) bSeq (bCond P) bBlock bLoop (bRange P) bExit bScope bLabel bGoto bRet bRefuse c
theorem codeB_eq (c : Code) : (codeB P c).f = stepCode P c := by
  induction c with
  | region id ops draw =>
    cases draw with
    | true =>
      funext T k c h
      show (bPlan P ops.toList).f T k c h = goPlan P (planOf P ops.toList) ops.toList T k c h
      unfold bPlan goPlan
      cases planOf P ops.toList with
      | none => rfl
      | some p => exact planB_eq P ops.toList k c p T h
    | false => funext T k c h; exact regB_eq P ops.toList k c ops.toList T h
  | seq a b iha ihb => funext T k c h; exact congrFun (congrFun (congrFun (congrFun iha T) (.code b :: k)) c) h
  | cond x a b iha ihb =>
    funext T k c h
    show BR.rec (motive := fun _ => St) (.bad "cond") (cdB (codeB P a) (codeB P b) T k c h) ((opd P x).g T).br = (match ev P T x with
      | .bool t => Bool.rec (motive := fun _ => St) (stepCode P b T k c h) (stepCode P a T k c h) t
      | _ => .bad "cond")
    rw [opd_eq]
    generalize ev P T x = v
    cases v
    case bool t =>
      cases t with
      | true => exact congrFun (congrFun (congrFun (congrFun iha T) k) c) h
      | false => exact congrFun (congrFun (congrFun (congrFun ihb T) k) c) h
    all_goals rfl
  | block id b ih => funext T k c h; exact congrFun (congrFun (congrFun (congrFun ih T) (.inBlock id :: k)) c) h
  | _ => rfl
/-! the machine -/
noncomputable def cdI (c : Code) : SF := (codeB P c).f
noncomputable def opI (all rest : List Oper) : SF := fun T k c h => (regB P all rest).f k c T h
noncomputable def dpI (all : List Oper) (plan : List PStep) : SF := fun T k c h => (planB P all plan).f k c T h
noncomputable def stepItF (it : AItem) : SF := AItem.rec (motive := fun _ => SF) (cdI P) iBlock iLoop iScope (opI P) (dpI P) iRange endR beginR it
theorem stepItF_eq (it : AItem) : stepItF P it = stepItem P it := by
  cases it with
  | code c => exact codeB_eq P c
  | ops all rest => funext T k c h; exact regB_eq P all k c rest T h
  | dops all plan => funext T k c h; exact planB_eq P all k c plan T h
  | _ => rfl
noncomputable def goC (T : Slots) (c : Ctx) (h : Heap) (it : AItem) (k : List AItem) (_ : St) : St := stepItF P it T k c h
noncomputable def stepGoF (T : Slots) (k : List AItem) (c : Ctx) (h : Heap) : St := List.rec (motive := fun _ => St) (leave T c h) (goC P T c h) k
theorem stepGoF_eq (T : Slots) (k : List AItem) (c : Ctx) (h : Heap) : stepGoF P T k c h = stepGo P T k c h := by
  cases k with
  | nil => rfl
  | cons it k => show stepItF P it T k c h = _; rw [stepItF_eq]; rfl
noncomputable def rGo (ih : St → Bool) (T : Slots) (k : List AItem) (c : Ctx) (h : Heap) : Bool := ih (stepGoF P T k c h)
noncomputable def rUn (ih : St → Bool) (m : AMode) (T : Slots) (c : Ctx) (h : Heap) : Bool := ih (stepUn P m T c h)
noncomputable def rAlt (ih : St → Bool) (l : List (AV × Heap)) (T : Slots) (k : List AItem) (c : Ctx) : Bool := altAll ih T k c l
noncomputable def rBad (_ : String) : Bool := false
noncomputable def stepR (post : AV → Heap → Bool) (_ : Nat) (ih : St → Bool) (s : St) : Bool := St.rec (motive := fun _ => Bool) (rGo P ih) (rUn P ih) post (rAlt ih) rBad s
noncomputable def runF (post : AV → Heap → Bool) (n : Nat) : St → Bool := Nat.rec (motive := fun _ => St → Bool) (fun _ => false) (stepR P post) n
theorem runF_eq (post : AV → Heap → Bool) : ∀ (n : Nat), runF P post n = runAll P post n
  | 0 => rfl
  | n + 1 => by
    have ih := runF_eq post n
    funext s
    show stepR P post n (runF P post n) s = _
    rw [ih]
    cases s with
    | go T k c h => show runAll P post n (stepGoF P T k c h) = runAll P post n (stepGo P T k c h); rw [stepGoF_eq]
    | _ => rfl
end
end Go.VM
