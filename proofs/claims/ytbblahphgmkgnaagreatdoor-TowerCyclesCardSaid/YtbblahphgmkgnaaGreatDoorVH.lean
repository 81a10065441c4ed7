/- The same evaluator, written for the kernel, and that it is the same. No conditions: a library text of the proof. -/
import Derived.Test.YtbblahphgmkgnaaGreatDoorVG
namespace Go.VM
inductive IR where | no | i (k : IntKind) (n : Int)
inductive SR where | no | s (l c : Nat)
inductive BR where | no | b (x : Bool)
inductive PR where | no | p (b : Key) (off : Nat)
inductive VR where | no | v (b : Key) (off len : Nat) (cap : ACap)
inductive TR where | no | t (vs : List AV)
noncomputable def AV.ir (v : AV) : IR := AV.rec (motive_1 := fun _ => IR) (motive_2 := fun _ => PUnit) (fun _ => .no) (fun k n => .i k n) (fun _ _ => .no) (fun _ _ => .no) .no (fun _ _ => .no) .no .no (fun _ _ _ _ => .no) .no (fun _ => .no) (fun _ _ _ _ _ => .no) .no (fun _ _ _ => .no) .no (fun _ _ => .no) (fun _ _ => .no) .no .no (fun _ _ _ _ => .no) (fun _ _ _ _ => .no) (fun _ _ _ _ => .no) (fun _ => .no) (fun _ _ _ => .no) (fun _ _ => .no) .no (fun _ _ => .no) ⟨⟩ (fun _ _ _ _ => ⟨⟩) v
noncomputable def AV.sr (v : AV) : SR := AV.rec (motive_1 := fun _ => SR) (motive_2 := fun _ => PUnit) (fun _ => .no) (fun _ _ => .no) (fun _ _ => .no) (fun l c => .s l c) .no (fun _ _ => .no) .no .no (fun _ _ _ _ => .no) .no (fun _ => .no) (fun _ _ _ _ _ => .no) .no (fun _ _ _ => .no) .no (fun _ _ => .no) (fun _ _ => .no) .no .no (fun _ _ _ _ => .no) (fun _ _ _ _ => .no) (fun _ _ _ _ => .no) (fun _ => .no) (fun _ _ _ => .no) (fun _ _ => .no) .no (fun _ _ => .no) ⟨⟩ (fun _ _ _ _ => ⟨⟩) v
noncomputable def AV.br (v : AV) : BR := AV.rec (motive_1 := fun _ => BR) (motive_2 := fun _ => PUnit) (fun b => .b b) (fun _ _ => .no) (fun _ _ => .no) (fun _ _ => .no) .no (fun _ _ => .no) .no .no (fun _ _ _ _ => .no) .no (fun _ => .no) (fun _ _ _ _ _ => .no) .no (fun _ _ _ => .no) .no (fun _ _ => .no) (fun _ _ => .no) .no .no (fun _ _ _ _ => .no) (fun _ _ _ _ => .no) (fun _ _ _ _ => .no) (fun _ => .no) (fun _ _ _ => .no) (fun _ _ => .no) .no (fun _ _ => .no) ⟨⟩ (fun _ _ _ _ => ⟨⟩) v
noncomputable def AV.pr (v : AV) : PR := AV.rec (motive_1 := fun _ => PR) (motive_2 := fun _ => PUnit) (fun _ => .no) (fun _ _ => .no) (fun _ _ => .no) (fun _ _ => .no) .no (fun b o => .p b o) .no .no (fun _ _ _ _ => .no) .no (fun _ => .no) (fun _ _ _ _ _ => .no) .no (fun _ _ _ => .no) .no (fun _ _ => .no) (fun _ _ => .no) .no .no (fun _ _ _ _ => .no) (fun _ _ _ _ => .no) (fun _ _ _ _ => .no) (fun _ => .no) (fun _ _ _ => .no) (fun _ _ => .no) .no (fun _ _ => .no) ⟨⟩ (fun _ _ _ _ => ⟨⟩) v
noncomputable def AV.vr (v : AV) : VR := AV.rec (motive_1 := fun _ => VR) (motive_2 := fun _ => PUnit) (fun _ => .no) (fun _ _ => .no) (fun _ _ => .no) (fun _ _ => .no) .no (fun _ _ => .no) .no .no (fun b o l c => .v b o l c) .no (fun _ => .no) (fun _ _ _ _ _ => .no) .no (fun _ _ _ => .no) .no (fun _ _ => .no) (fun _ _ => .no) .no .no (fun _ _ _ _ => .no) (fun _ _ _ _ => .no) (fun _ _ _ _ => .no) (fun _ => .no) (fun _ _ _ => .no) (fun _ _ => .no) .no (fun _ _ => .no) ⟨⟩ (fun _ _ _ _ => ⟨⟩) v
noncomputable def AV.tr (v : AV) : TR := AV.rec (motive_1 := fun _ => TR) (motive_2 := fun _ => PUnit) (fun _ => .no) (fun _ _ => .no) (fun _ _ => .no) (fun _ _ => .no) .no (fun _ _ => .no) .no .no (fun _ _ _ _ => .no) .no (fun _ => .no) (fun _ _ _ _ _ => .no) .no (fun _ _ _ => .no) .no (fun _ _ => .no) (fun vs _ => .t vs) .no .no (fun _ _ _ _ => .no) (fun _ _ _ _ => .no) (fun _ _ _ _ => .no) (fun _ => .no) (fun _ _ _ => .no) (fun _ _ => .no) .no (fun _ _ => .no) ⟨⟩ (fun _ _ _ _ => ⟨⟩) v
noncomputable def natI (n : Int) : Option Nat := Int.rec (motive := fun _ => Option Nat) some (fun _ => none) n
noncomputable def AV.nr (v : AV) : Option Nat := AV.rec (motive_1 := fun _ => Option Nat) (motive_2 := fun _ => PUnit) (fun _ => none) (fun _ n => natI n) (fun _ _ => none) (fun _ _ => none) none (fun _ _ => none) none none (fun _ _ _ _ => none) none (fun _ => none) (fun _ _ _ _ _ => none) none (fun _ _ _ => none) none (fun _ _ => none) (fun _ _ => none) none none (fun _ _ _ _ => none) (fun _ _ _ _ => none) (fun _ _ _ _ => none) (fun _ => none) (fun _ _ _ => none) (fun _ _ => none) none (fun _ _ => none) ⟨⟩ (fun _ _ _ _ => ⟨⟩) v
noncomputable def AV.oneF (v : AV) : Bool := AV.rec (motive_1 := fun _ => Bool) (motive_2 := fun _ => PUnit) (fun _ => true) (fun _ _ => true) (fun _ _ => true) (fun _ _ => true) true (fun _ _ => true) true true (fun _ _ _ _ => true) true (fun _ => true) (fun _ _ _ _ _ => true) true (fun _ _ _ => true) true (fun _ _ => false) (fun _ _ => false) false false (fun _ _ _ _ => true) (fun _ _ _ _ => true) (fun _ _ _ _ => true) (fun _ => true) (fun _ _ _ => true) (fun _ _ => true) true (fun _ _ => true) ⟨⟩ (fun _ _ _ _ => ⟨⟩) v
theorem AV.ir_is {v : AV} {k : IntKind} {n : Int} (h : v.ir = .i k n) : v = .int k n := by
 cases v
 case int k' n' => have h : IR.i k' n' = IR.i k n := h; injection h with e0 e1; subst e0; subst e1; rfl
 all_goals exact nomatch (show IR.no = IR.i k n from h)
theorem AV.sr_is {v : AV} {l : Nat} {c : Nat} (h : v.sr = .s l c) : v = .str l c := by
 cases v
 case str l' c' => have h : SR.s l' c' = SR.s l c := h; injection h with e0 e1; subst e0; subst e1; rfl
 all_goals exact nomatch (show SR.no = SR.s l c from h)
theorem AV.br_is {v : AV} {b : Bool} (h : v.br = .b b) : v = .bool b := by
 cases v
 case bool b' => have h : BR.b b' = BR.b b := h; injection h with e0; subst e0; rfl
 all_goals exact nomatch (show BR.no = BR.b b from h)
theorem AV.pr_is {v : AV} {b : Key} {o : Nat} (h : v.pr = .p b o) : v = .ptr b o := by
 cases v
 case ptr b' o' => have h : PR.p b' o' = PR.p b o := h; injection h with e0 e1; subst e0; subst e1; rfl
 all_goals exact nomatch (show PR.no = PR.p b o from h)
theorem AV.vr_is {v : AV} {b : Key} {o : Nat} {l : Nat} {c : ACap} (h : v.vr = .v b o l c) : v = .slice b o l c := by
 cases v
 case slice b' o' l' c' => have h : VR.v b' o' l' c' = VR.v b o l c := h; injection h with e0 e1 e2 e3; subst e0; subst e1; subst e2; subst e3; rfl
 all_goals exact nomatch (show VR.no = VR.v b o l c from h)
theorem AV.tr_is {v : AV} {vs : List AV} (h : v.tr = .t vs) : v = .tup vs := by
 cases v
 case tup vs' => have h : TR.t vs' = TR.t vs := h; injection h with e0; subst e0; rfl
 all_goals exact nomatch (show TR.no = TR.t vs from h)
theorem AV.nr_is {v : AV} {n : Nat} (h : v.nr = some n) : ∃ k, v = .int k (.ofNat n) := by
 cases v
 case int k m =>
  cases m with
  | ofNat a => have h : some a = some n := h; injection h with e; subst e; exact ⟨k, rfl⟩
  | negSucc a => exact nomatch (show none = some n from h)
 all_goals exact nomatch (show none = some n from h)
theorem AV.oneF_eq (v : AV) : v.oneF = v.one := by cases v <;> rfl
theorem forceN_eqF {α : Type} (n : Nat) (k : Nat → α) : forceN n k = k n := by cases n <;> rfl
noncomputable def isI64 (k : IntKind) : Bool := IntKind.rec (motive := fun _ => Bool) false false false true false false false false k
theorem isI64_is {k : IntKind} (h : isI64 k = true) : k = .i64 := by cases k <;> first | rfl | exact nomatch (show false = true from h)
noncomputable def kNo (k : IntKind) : Nat := IntKind.rec (motive := fun _ => Nat) 0 1 2 3 4 5 6 7 k
theorem kNo_eq (k : IntKind) : kNo k = kindNo k := by cases k <;> rfl
def noN (_ : Nat) : Option AV := none
def addN (s : Nat) : Option AV := cond (Nat.blt s 9223372036854775808) (some (.int .i64 (.ofNat s))) none
noncomputable def addNN (a b : Nat) : Option AV := forceN (Nat.add a b) addN
noncomputable def addI1 (b : Int) (a : Nat) : Option AV := Int.rec (motive := fun _ => Option AV) (addNN a) noN b
noncomputable def addI (a b : Int) : Option AV := Int.rec (motive := fun _ => Option AV) (addI1 b) noN a
noncomputable def addF3 (k : IntKind) (a : Int) (k' : IntKind) (b : Int) : Option AV := cond (isI64 k) (cond (isI64 k') (addI a b) none) none
noncomputable def subNN (a b : Nat) : Option AV := cond (Nat.ble b a) (forceN (Nat.sub a b) addN) none
noncomputable def subI1 (b : Int) (a : Nat) : Option AV := Int.rec (motive := fun _ => Option AV) (subNN a) noN b
noncomputable def subI (a b : Int) : Option AV := Int.rec (motive := fun _ => Option AV) (subI1 b) noN a
noncomputable def subF3 (k : IntKind) (a : Int) (k' : IntKind) (b : Int) : Option AV := cond (isI64 k) (cond (isI64 k') (subI a b) none) none
noncomputable def ltP (b : Int) (a : Nat) : Bool := Int.rec (motive := fun _ => Bool) (Nat.blt a) (fun _ => false) b
noncomputable def ltM1 (a b : Nat) : Bool := Nat.blt b a
noncomputable def ltM (b : Int) (a : Nat) : Bool := Int.rec (motive := fun _ => Bool) (fun _ => true) (ltM1 a) b
noncomputable def ltI (a b : Int) : Bool := Int.rec (motive := fun _ => Bool) (ltP b) (ltM b) a
noncomputable def eqP (b : Int) (a : Nat) : Bool := Int.rec (motive := fun _ => Bool) (Nat.beq a) (fun _ => false) b
noncomputable def eqM (b : Int) (a : Nat) : Bool := Int.rec (motive := fun _ => Bool) (fun _ => false) (Nat.beq a) b
noncomputable def eqI (a b : Int) : Bool := Int.rec (motive := fun _ => Bool) (eqP b) (eqM b) a
theorem ltI_eq (a b : Int) : ltI a b = intLt a b := by cases a <;> cases b <;> rfl
theorem eqI_eq (a b : Int) : eqI a b = intEq a b := by cases a <;> cases b <;> rfl
noncomputable def boolO (b : Bool) : Option AV := Bool.rec (motive := fun _ => Option AV) (some (.bool false)) (some (.bool true)) b
noncomputable def boolN (b : Bool) : Option AV := Bool.rec (motive := fun _ => Option AV) (some (.bool true)) (some (.bool false)) b
noncomputable def ltF3 (k : IntKind) (a : Int) (k' : IntKind) (b : Int) : Option AV := cond (Nat.beq (kNo k) (kNo k')) (boolO (ltI a b)) none
noncomputable def gtF3 (k : IntKind) (a : Int) (k' : IntKind) (b : Int) : Option AV := cond (Nat.beq (kNo k) (kNo k')) (boolO (ltI b a)) none
noncomputable def leF3 (k : IntKind) (a : Int) (k' : IntKind) (b : Int) : Option AV := cond (Nat.beq (kNo k) (kNo k')) (boolN (ltI b a)) none
noncomputable def geF3 (k : IntKind) (a : Int) (k' : IntKind) (b : Int) : Option AV := cond (Nat.beq (kNo k) (kNo k')) (boolN (ltI a b)) none
noncomputable def eqF3 (k : IntKind) (a : Int) (k' : IntKind) (b : Int) : Option AV := cond (Nat.beq (kNo k) (kNo k')) (boolO (eqI a b)) none
noncomputable def neF3 (k : IntKind) (a : Int) (k' : IntKind) (b : Int) : Option AV := cond (Nat.beq (kNo k) (kNo k')) (boolN (eqI a b)) none
noncomputable def strO2 (l c : Nat) : Option AV := cond (Nat.ble l 1000000) (some (.str l c)) none
noncomputable def strO1 (c l : Nat) : Option AV := forceN c (strO2 l)
noncomputable def strO (l c : Nat) : Option AV := forceN l (strO1 c)
noncomputable def addS4 (la a lb b : Nat) : Option AV := strO (Nat.add la lb) (Nat.add a (Nat.shiftLeft b (Nat.mul 8 la)))
noncomputable def eqS4 (la a lb b : Nat) : Option AV := boolO (cond (Nat.beq la lb) (Nat.beq a b) false)
noncomputable def neS4 (la a lb b : Nat) : Option AV := boolN (cond (Nat.beq la lb) (Nat.beq a b) false)
abbrev F4 := IntKind → Int → IntKind → Int → Option AV
abbrev S4 := Nat → Nat → Nat → Nat → Option AV
def noS4 (_ _ _ _ : Nat) : Option AV := none
noncomputable def int2a (f : F4) (y : AV) (k : IntKind) (a : Int) : Option AV := IR.rec (motive := fun _ => Option AV) none (f k a) y.ir
noncomputable def str2a (f : S4) (y : AV) (l c : Nat) : Option AV := SR.rec (motive := fun _ => Option AV) none (f l c) y.sr
noncomputable def str2 (f : S4) (x y : AV) : Option AV := SR.rec (motive := fun _ => Option AV) none (str2a f y) x.sr
noncomputable def both2 (f : F4) (g : S4) (x y : AV) : Option AV := IR.rec (motive := fun _ => Option AV) (str2 g x y) (int2a f y) x.ir
theorem both2_some {f : F4} {g : S4} {x y v : AV} (h : both2 f g x y = some v) : (∃ k a k' b, x = .int k a ∧ y = .int k' b ∧ f k a k' b = some v) ∨ (∃ l c l' c', x = .str l c ∧ y = .str l' c' ∧ g l c l' c' = some v) := by
 unfold both2 at h
 cases hx : x.ir with
 | i k a =>
  rw [hx] at h
  have h : int2a f y k a = some v := h
  unfold int2a at h
  cases hy : y.ir with
  | i k' b => rw [hy] at h; exact .inl ⟨k, a, k', b, AV.ir_is hx, AV.ir_is hy, h⟩
  | no => rw [hy] at h; exact nomatch (show none = some v from h)
 | no =>
  rw [hx] at h
  have h : str2 g x y = some v := h
  unfold str2 at h
  cases hs : x.sr with
  | no => rw [hs] at h; exact nomatch (show none = some v from h)
  | s l c =>
   rw [hs] at h
   have h : str2a g y l c = some v := h
   unfold str2a at h
   cases hy : y.sr with
   | s l' c' => rw [hy] at h; exact .inr ⟨l, c, l', c', AV.sr_is hs, AV.sr_is hy, h⟩
   | no => rw [hy] at h; exact nomatch (show none = some v from h)
structure FB where
 f : AV → AV → Option AV
def none2 (_ _ : AV) : Option AV := none
noncomputable def ffB (op : BinOp) : FB := BinOp.rec (motive := fun _ => FB) ⟨both2 addF3 addS4⟩ ⟨both2 subF3 noS4⟩ ⟨none2⟩ ⟨none2⟩ ⟨none2⟩ ⟨none2⟩ ⟨none2⟩ ⟨none2⟩ ⟨none2⟩ ⟨none2⟩ ⟨none2⟩ ⟨both2 eqF3 eqS4⟩ ⟨both2 neF3 neS4⟩ ⟨both2 ltF3 noS4⟩ ⟨both2 leF3 noS4⟩ ⟨both2 gtF3 noS4⟩ ⟨both2 geF3 noS4⟩ op
def N8.k0 {α : Type} (k : N8 α → St) (a1 a2 a3 a4 a5 a6 a7 y : α) : St := k ⟨y, a1, a2, a3, a4, a5, a6, a7⟩
def N8.w0 {α : Type} (g : α → (α → St) → St) (k : N8 α → St) (a0 a1 a2 a3 a4 a5 a6 a7 : α) : St := g a0 (N8.k0 k a1 a2 a3 a4 a5 a6 a7)
noncomputable def N8.wk0 {α : Type} (x : N8 α) (g : α → (α → St) → St) (k : N8 α → St) : St := N8.rec (motive := fun _ => St) (N8.w0 g k) x
def N8.r0 {α : Type} (k : α → St) (a0 _ _ _ _ _ _ _ : α) : St := k a0
noncomputable def N8.rk0 {α : Type} (x : N8 α) (k : α → St) : St := N8.rec (motive := fun _ => St) (N8.r0 k) x
def N8.k1 {α : Type} (k : N8 α → St) (a0 a2 a3 a4 a5 a6 a7 y : α) : St := k ⟨a0, y, a2, a3, a4, a5, a6, a7⟩
def N8.w1 {α : Type} (g : α → (α → St) → St) (k : N8 α → St) (a0 a1 a2 a3 a4 a5 a6 a7 : α) : St := g a1 (N8.k1 k a0 a2 a3 a4 a5 a6 a7)
noncomputable def N8.wk1 {α : Type} (x : N8 α) (g : α → (α → St) → St) (k : N8 α → St) : St := N8.rec (motive := fun _ => St) (N8.w1 g k) x
def N8.r1 {α : Type} (k : α → St) (_ a1 _ _ _ _ _ _ : α) : St := k a1
noncomputable def N8.rk1 {α : Type} (x : N8 α) (k : α → St) : St := N8.rec (motive := fun _ => St) (N8.r1 k) x
def N8.k2 {α : Type} (k : N8 α → St) (a0 a1 a3 a4 a5 a6 a7 y : α) : St := k ⟨a0, a1, y, a3, a4, a5, a6, a7⟩
def N8.w2 {α : Type} (g : α → (α → St) → St) (k : N8 α → St) (a0 a1 a2 a3 a4 a5 a6 a7 : α) : St := g a2 (N8.k2 k a0 a1 a3 a4 a5 a6 a7)
noncomputable def N8.wk2 {α : Type} (x : N8 α) (g : α → (α → St) → St) (k : N8 α → St) : St := N8.rec (motive := fun _ => St) (N8.w2 g k) x
def N8.r2 {α : Type} (k : α → St) (_ _ a2 _ _ _ _ _ : α) : St := k a2
noncomputable def N8.rk2 {α : Type} (x : N8 α) (k : α → St) : St := N8.rec (motive := fun _ => St) (N8.r2 k) x
def N8.k3 {α : Type} (k : N8 α → St) (a0 a1 a2 a4 a5 a6 a7 y : α) : St := k ⟨a0, a1, a2, y, a4, a5, a6, a7⟩
def N8.w3 {α : Type} (g : α → (α → St) → St) (k : N8 α → St) (a0 a1 a2 a3 a4 a5 a6 a7 : α) : St := g a3 (N8.k3 k a0 a1 a2 a4 a5 a6 a7)
noncomputable def N8.wk3 {α : Type} (x : N8 α) (g : α → (α → St) → St) (k : N8 α → St) : St := N8.rec (motive := fun _ => St) (N8.w3 g k) x
def N8.r3 {α : Type} (k : α → St) (_ _ _ a3 _ _ _ _ : α) : St := k a3
noncomputable def N8.rk3 {α : Type} (x : N8 α) (k : α → St) : St := N8.rec (motive := fun _ => St) (N8.r3 k) x
def N8.k4 {α : Type} (k : N8 α → St) (a0 a1 a2 a3 a5 a6 a7 y : α) : St := k ⟨a0, a1, a2, a3, y, a5, a6, a7⟩
def N8.w4 {α : Type} (g : α → (α → St) → St) (k : N8 α → St) (a0 a1 a2 a3 a4 a5 a6 a7 : α) : St := g a4 (N8.k4 k a0 a1 a2 a3 a5 a6 a7)
noncomputable def N8.wk4 {α : Type} (x : N8 α) (g : α → (α → St) → St) (k : N8 α → St) : St := N8.rec (motive := fun _ => St) (N8.w4 g k) x
def N8.r4 {α : Type} (k : α → St) (_ _ _ _ a4 _ _ _ : α) : St := k a4
noncomputable def N8.rk4 {α : Type} (x : N8 α) (k : α → St) : St := N8.rec (motive := fun _ => St) (N8.r4 k) x
def N8.k5 {α : Type} (k : N8 α → St) (a0 a1 a2 a3 a4 a6 a7 y : α) : St := k ⟨a0, a1, a2, a3, a4, y, a6, a7⟩
def N8.w5 {α : Type} (g : α → (α → St) → St) (k : N8 α → St) (a0 a1 a2 a3 a4 a5 a6 a7 : α) : St := g a5 (N8.k5 k a0 a1 a2 a3 a4 a6 a7)
noncomputable def N8.wk5 {α : Type} (x : N8 α) (g : α → (α → St) → St) (k : N8 α → St) : St := N8.rec (motive := fun _ => St) (N8.w5 g k) x
def N8.r5 {α : Type} (k : α → St) (_ _ _ _ _ a5 _ _ : α) : St := k a5
noncomputable def N8.rk5 {α : Type} (x : N8 α) (k : α → St) : St := N8.rec (motive := fun _ => St) (N8.r5 k) x
def N8.k6 {α : Type} (k : N8 α → St) (a0 a1 a2 a3 a4 a5 a7 y : α) : St := k ⟨a0, a1, a2, a3, a4, a5, y, a7⟩
def N8.w6 {α : Type} (g : α → (α → St) → St) (k : N8 α → St) (a0 a1 a2 a3 a4 a5 a6 a7 : α) : St := g a6 (N8.k6 k a0 a1 a2 a3 a4 a5 a7)
noncomputable def N8.wk6 {α : Type} (x : N8 α) (g : α → (α → St) → St) (k : N8 α → St) : St := N8.rec (motive := fun _ => St) (N8.w6 g k) x
def N8.r6 {α : Type} (k : α → St) (_ _ _ _ _ _ a6 _ : α) : St := k a6
noncomputable def N8.rk6 {α : Type} (x : N8 α) (k : α → St) : St := N8.rec (motive := fun _ => St) (N8.r6 k) x
def N8.k7 {α : Type} (k : N8 α → St) (a0 a1 a2 a3 a4 a5 a6 y : α) : St := k ⟨a0, a1, a2, a3, a4, a5, a6, y⟩
def N8.w7 {α : Type} (g : α → (α → St) → St) (k : N8 α → St) (a0 a1 a2 a3 a4 a5 a6 a7 : α) : St := g a7 (N8.k7 k a0 a1 a2 a3 a4 a5 a6)
noncomputable def N8.wk7 {α : Type} (x : N8 α) (g : α → (α → St) → St) (k : N8 α → St) : St := N8.rec (motive := fun _ => St) (N8.w7 g k) x
def N8.r7 {α : Type} (k : α → St) (_ _ _ _ _ _ _ a7 : α) : St := k a7
noncomputable def N8.rk7 {α : Type} (x : N8 α) (k : α → St) : St := N8.rec (motive := fun _ => St) (N8.r7 k) x
structure Wr (α : Type) where
 f : N8 α → (α → (α → St) → St) → (N8 α → St) → St
noncomputable def wr {α : Type} (d : D8) : Wr α := D8.rec (motive := fun _ => Wr α) ⟨N8.wk0⟩ ⟨N8.wk1⟩ ⟨N8.wk2⟩ ⟨N8.wk3⟩ ⟨N8.wk4⟩ ⟨N8.wk5⟩ ⟨N8.wk6⟩ ⟨N8.wk7⟩ d
structure Rr (α : Type) where
 f : N8 α → (α → St) → St
noncomputable def rr {α : Type} (d : D8) : Rr α := D8.rec (motive := fun _ => Rr α) ⟨N8.rk0⟩ ⟨N8.rk1⟩ ⟨N8.rk2⟩ ⟨N8.rk3⟩ ⟨N8.rk4⟩ ⟨N8.rk5⟩ ⟨N8.rk6⟩ ⟨N8.rk7⟩ d
theorem wr_eq {α : Type} (d : D8) (x : N8 α) (g : α → (α → St) → St) (k : N8 α → St) : (wr d).f x g k = g ((sel d).f x) (fun y => k ((upd d).f (konst y) x)) := by cases x; cases d <;> rfl
theorem rr_eq {α : Type} (d : D8) (x : N8 α) (k : α → St) : (rr d).f x k = k ((sel d).f x) := by cases x; cases d <;> rfl
theorem upd_konst {α : Type} (d : D8) (f : α → α) (x : N8 α) : (upd d).f (konst (f ((sel d).f x))) x = (upd d).f f x := by cases x; cases d <;> rfl
def inV {α : Type} (v : α) (_ : α) (k : α → St) : St := k v
noncomputable def in1 {α : Type} (a : D8) (v : α) (x : N8 α) (k : N8 α → St) : St := (wr a).f x (inV v) k
noncomputable def in2 {α : Type} (a b : D8) (v : α) (x : N8 (N8 α)) (k : N8 (N8 α) → St) : St := (wr b).f x (in1 a v) k
noncomputable def in3 {α : Type} (a b c : D8) (v : α) (x : N8 (N8 (N8 α))) (k : N8 (N8 (N8 α)) → St) : St := (wr c).f x (in2 a b v) k
noncomputable def in4 {α : Type} (a b c d : D8) (v : α) (x : N8 (N8 (N8 (N8 α)))) (k : N8 (N8 (N8 (N8 α))) → St) : St := (wr d).f x (in3 a b c v) k
noncomputable def in5 {α : Type} (a b c d e : D8) (v : α) (x : N8 (N8 (N8 (N8 (N8 α))))) (k : N8 (N8 (N8 (N8 (N8 α)))) → St) : St := (wr e).f x (in4 a b c d v) k
theorem in1_eq {α : Type} (a : D8) (v : α) (x : N8 α) (k : N8 α → St) : in1 a v x k = k ((upd a).f (konst v) x) := by unfold in1; rw [wr_eq]; rfl
theorem in2_eq {α : Type} (a b : D8) (v : α) (x : N8 (N8 α)) (k : N8 (N8 α) → St) : in2 a b v x k = k ((upd b).f ((upd a).f (konst v)) x) := by unfold in2; rw [wr_eq, in1_eq, upd_konst]
theorem in3_eq {α : Type} (a b c : D8) (v : α) (x : N8 (N8 (N8 α))) (k : N8 (N8 (N8 α)) → St) : in3 a b c v x k = k ((upd c).f ((upd b).f ((upd a).f (konst v))) x) := by unfold in3; rw [wr_eq, in2_eq, upd_konst]
theorem in4_eq {α : Type} (a b c d : D8) (v : α) (x : N8 (N8 (N8 (N8 α)))) (k : N8 (N8 (N8 (N8 α))) → St) : in4 a b c d v x k = k ((upd d).f ((upd c).f ((upd b).f ((upd a).f (konst v)))) x) := by unfold in4; rw [wr_eq, in3_eq, upd_konst]
theorem in5_eq {α : Type} (a b c d e : D8) (v : α) (x : N8 (N8 (N8 (N8 (N8 α))))) (k : N8 (N8 (N8 (N8 (N8 α)))) → St) : in5 a b c d e v x k = k ((upd e).f ((upd d).f ((upd c).f ((upd b).f ((upd a).f (konst v))))) x) := by unfold in5; rw [wr_eq, in4_eq, upd_konst]
structure PB where
 f : AV → ST → (ST → St) → St
def pS2 (k : ST → St) (mid : N8 (N8 (N8 AV))) (hi : List (Nat × AV)) (lo : N8 (N8 AV)) : St := k ⟨lo, mid, hi⟩
noncomputable def pS1 (a b : D8) (v : AV) (k : ST → St) (lo : N8 (N8 AV)) (mid : N8 (N8 (N8 AV))) (hi : List (Nat × AV)) : St := in2 a b v lo (pS2 k mid hi)
noncomputable def pS (a b : D8) (v : AV) (t : ST) (k : ST → St) : St := ST.rec (motive := fun _ => St) (pS1 a b v k) t
def pM2 (k : ST → St) (lo : N8 (N8 AV)) (hi : List (Nat × AV)) (mid : N8 (N8 (N8 AV))) : St := k ⟨lo, mid, hi⟩
noncomputable def pM1 (a b c : D8) (v : AV) (k : ST → St) (lo : N8 (N8 AV)) (mid : N8 (N8 (N8 AV))) (hi : List (Nat × AV)) : St := in3 a b c v mid (pM2 k lo hi)
noncomputable def pM (a b c : D8) (v : AV) (t : ST) (k : ST → St) : St := ST.rec (motive := fun _ => St) (pM1 a b c v k) t
noncomputable def pH (n : Nat) (v : AV) (t : ST) (k : ST → St) : St := k (t.set v (.h n))
noncomputable def pbS (a b : D8) : PB := ⟨pS a b⟩
noncomputable def pbM (a b c : D8) : PB := ⟨pM a b c⟩
noncomputable def pbH (n : Nat) : PB := ⟨pH n⟩
noncomputable def pb (d : Nat) : PB := SKey.rec (motive := fun _ => PB) pbS pbM pbH (keyOf d)
theorem pb_eq (d : Nat) (v : AV) (t : ST) (k : ST → St) : (pb d).f v t k = k (t.set v (keyOf d)) := by
 unfold pb
 generalize keyOf d = key
 obtain ⟨lo, mid, hi⟩ := t
 cases key with
 | s a b => exact in2_eq a b v lo _
 | m a b c => exact in3_eq a b c v mid _
 | h n => rfl
noncomputable def sS2 (ih : ST → Nat → (ST → St) → St) (i : Nat) (k : ST → St) (t : ST) : St := ih t (Nat.succ i) k
noncomputable def sS1 (v : AV) (_ : List AV) (ih : ST → Nat → (ST → St) → St) (t : ST) (i : Nat) (k : ST → St) : St := (pb i).f v t (sS2 ih i k)
noncomputable def setSK (args : List AV) : ST → Nat → (ST → St) → St := List.rec (motive := fun _ => ST → Nat → (ST → St) → St) (fun t _ k => k t) sS1 args
theorem setSK_eq : ∀ (args : List AV) (t : ST) (i : Nat) (k : ST → St), setSK args t i k = k (setSlots args t i)
 | [], t, i, k => rfl
 | v :: args, t, i, k => by
  show (pb i).f v t (sS2 (setSK args) i k) = _
  rw [pb_eq]
  show setSK args (t.set v (keyOf i)) (Nat.succ i) k = _
  rw [setSK_eq args]; rfl
def hp2 (k : Heap → St) (n : Key) (t : RT5 AObj) : St := k ⟨⟨t⟩, n⟩
noncomputable def hp1 (o : AObj) (k : Heap → St) (n : Key) (t : RT5 AObj) (a b c d e : D8) : St := in5 a b c d e (some o) t (hp2 k n)
noncomputable def hp0 (o : AObj) (b : Key) (k : Heap → St) (n : Key) (t : RT5 AObj) : St := Key.rec (motive := fun _ => St) (hp1 o k n t) b
noncomputable def hpT (o : AObj) (b : Key) (k : Heap → St) (t : RT AObj) (n : Key) : St := RT.rec (motive := fun _ => St) (hp0 o b k n) t
noncomputable def hput (h : Heap) (b : Key) (o : AObj) (k : Heap → St) : St := Heap.rec (motive := fun _ => St) (hpT o b k) h
theorem hput_eq (h : Heap) (b : Key) (o : AObj) (k : Heap → St) : hput h b o k = k (h.put b o) := by
 obtain ⟨⟨t⟩, n⟩ := h
 obtain ⟨a, b, c, d, e⟩ := b
 exact in5_eq a b c d e (some o) t _
noncomputable def ha3 (k : Key → Heap → St) (t : RT5 AObj) (a b c d e : D8) : St := nextD (fun a' => k ⟨a, b, c, d, e⟩ ⟨⟨t⟩, ⟨a', b, c, d, e⟩⟩) (k ⟨a, b, c, d, e⟩ ⟨⟨t⟩, incr ⟨a, b, c, d, e⟩⟩) a
noncomputable def ha2 (k : Key → Heap → St) (a b c d e : D8) (t : RT5 AObj) : St := ha3 k t a b c d e
noncomputable def ha1 (o : AObj) (k : Key → Heap → St) (w : St) (t : RT5 AObj) (a b c d e : D8) : St := Option.rec (motive := fun _ => St) (in5 a b c d e (some o) t (ha2 k a b c d e)) (fun _ => w) (RT.getD t a b c d e)
noncomputable def ha0 (o : AObj) (k : Key → Heap → St) (w : St) (n : Key) (t : RT5 AObj) : St := Key.rec (motive := fun _ => St) (ha1 o k w t) n
noncomputable def haT (o : AObj) (k : Key → Heap → St) (w : St) (t : RT AObj) (n : Key) : St := RT.rec (motive := fun _ => St) (ha0 o k w n) t
noncomputable def halloc (h : Heap) (o : AObj) (k : Key → Heap → St) (w : St) : St := Heap.rec (motive := fun _ => St) (haT o k w) h
theorem halloc_eq (h : Heap) (o : AObj) (kr : Key → Heap → Res) (k : Key → Heap → St) (slow : Res → St) (hk : ∀ b h, slow (kr b h) = k b h) : halloc h o k (slow (.bad "key")) = slow (h.alloc o kr) := by
 obtain ⟨⟨t⟩, n⟩ := h
 obtain ⟨a, b, c, d, e⟩ := n
 show Option.rec (motive := fun _ => St) (in5 a b c d e (some o) t (ha2 k a b c d e)) (fun _ => slow (.bad "key")) (RT.getD t a b c d e) = slow (Option.rec (motive := fun _ => Res) (kr ⟨a, b, c, d, e⟩ (.mk (RT.set o ⟨a, b, c, d, e⟩ ⟨t⟩) (incr ⟨a, b, c, d, e⟩))) (fun _ => .bad "key") (RT.getD t a b c d e))
 cases RT.getD t a b c d e with
 | some x => rfl
 | none =>
  show in5 a b c d e (some o) t (ha2 k a b c d e) = slow (kr ⟨a, b, c, d, e⟩ (.mk (RT.set o ⟨a, b, c, d, e⟩ ⟨t⟩) (incr ⟨a, b, c, d, e⟩)))
  rw [in5_eq, hk]
  cases a <;> rfl
theorem boolO_some {b : Bool} {v : AV} (h : boolO b = some v) (hp : Heap) : boolV b hp = .val v hp := by
 cases b <;> (injection h with e; subst e; rfl)
theorem boolN_some {b : Bool} {v : AV} (h : boolN b = some v) (hp : Heap) : boolV (not b) hp = .val v hp := by
 cases b <;> (injection h with e; subst e; rfl)
section
variable (P : Program)
theorem addN_some {s : Nat} {v : AV} (h : addN s = some v) : Nat.blt s 9223372036854775808 = true ∧ v = .int .i64 (.ofNat s) := by
 unfold addN at h
 cases hb : Nat.blt s 9223372036854775808 with
 | true => rw [hb] at h; injection h with e; exact ⟨rfl, e.symm⟩
 | false => rw [hb] at h; cases h
theorem arI64_some {op : BinOp} {t : Nat} {a b : Int} {hp : Heap} {s : Nat} (hb : Nat.blt s 9223372036854775808 = true) : arI64 P op t .i64 a .i64 b hp (Int.ofNat s) = .val (.int .i64 (.ofNat s)) hp := by
 show cond (Nat.blt s 9223372036854775808) (intV .i64 (Int.ofNat s) hp) _ = _
 rw [hb]
 show forceN s (fun a => Res.val (.int .i64 (Int.ofNat a)) hp) = _
 rw [forceN_eqF]
theorem addF3_ok {t : Nat} {k k' : IntKind} {a b : Int} {v : AV} {hp : Heap} (h : addF3 k a k' b = some v) : binInt P .add t k a k' b hp = .val v hp := by
 unfold addF3 at h
 cases h1 : isI64 k with
 | false => rw [h1] at h; cases h
 | true => cases h2 : isI64 k' with
  | false => rw [h1, h2] at h; cases h
  | true =>
   rw [h1, h2] at h
   obtain rfl := isI64_is h1
   obtain rfl := isI64_is h2
   have h : addI a b = some v := h
   cases a with
   | negSucc a => exact nomatch (show none = some v from h)
   | ofNat a => cases b with
    | negSucc b => exact nomatch (show none = some v from h)
    | ofNat b =>
     have h : forceN (Nat.add a b) addN = some v := h
     rw [forceN_eqF] at h
     obtain ⟨hb, rfl⟩ := addN_some h
     exact arI64_some P hb
theorem subF3_ok {t : Nat} {k k' : IntKind} {a b : Int} {v : AV} {hp : Heap} (h : subF3 k a k' b = some v) : binInt P .sub t k a k' b hp = .val v hp := by
 unfold subF3 at h
 cases h1 : isI64 k with
 | false => rw [h1] at h; cases h
 | true => cases h2 : isI64 k' with
  | false => rw [h1, h2] at h; cases h
  | true =>
   rw [h1, h2] at h
   obtain rfl := isI64_is h1
   obtain rfl := isI64_is h2
   have h : subI a b = some v := h
   cases a with
   | negSucc a => exact nomatch (show none = some v from h)
   | ofNat a => cases b with
    | negSucc b => exact nomatch (show none = some v from h)
    | ofNat b =>
     have h : cond (Nat.ble b a) (forceN (Nat.sub a b) addN) none = some v := h
     cases hle : Nat.ble b a with
     | false => rw [hle] at h; cases h
     | true =>
      rw [hle] at h
      have h : forceN (Nat.sub a b) addN = some v := h
      rw [forceN_eqF] at h
      obtain ⟨hb, rfl⟩ := addN_some h
      have e : (Int.ofNat a - Int.ofNat b) = Int.ofNat (Nat.sub a b) := by
       have := Nat.le_of_ble_eq_true hle
       show ((a : Nat) : Int) - ((b : Nat) : Int) = ((a - b : Nat) : Int)
       omega
      show arI64 P .sub t .i64 (Int.ofNat a) .i64 (Int.ofNat b) hp (Int.ofNat a - Int.ofNat b) = _
      rw [e]
      exact arI64_some P hb
theorem cmp_ok {op : BinOp} {t : Nat} {k k' : IntKind} {a b : Int} {v : AV} {hp : Heap} {x : Option AV} (h : cond (Nat.beq (kNo k) (kNo k')) x none = some v) (hx : x = some v → binIntQ P op t k a k' b hp = .val v hp) : binInt P op t k a k' b hp = .val v hp := by
 rw [kNo_eq, kNo_eq] at h
 unfold binInt
 cases hb : Nat.beq (kindNo k) (kindNo k') with
 | false => rw [hb] at h; cases h
 | true => rw [hb] at h; exact hx h
theorem ltF3_ok {t : Nat} {k k' : IntKind} {a b : Int} {v : AV} {hp : Heap} (h : ltF3 k a k' b = some v) : binInt P .lss t k a k' b hp = .val v hp := cmp_ok P h fun h => by rw [ltI_eq] at h; exact boolO_some h hp
theorem gtF3_ok {t : Nat} {k k' : IntKind} {a b : Int} {v : AV} {hp : Heap} (h : gtF3 k a k' b = some v) : binInt P .gtr t k a k' b hp = .val v hp := cmp_ok P h fun h => by rw [ltI_eq] at h; exact boolO_some h hp
theorem leF3_ok {t : Nat} {k k' : IntKind} {a b : Int} {v : AV} {hp : Heap} (h : leF3 k a k' b = some v) : binInt P .leq t k a k' b hp = .val v hp := cmp_ok P h fun h => by rw [ltI_eq] at h; exact boolN_some h hp
theorem geF3_ok {t : Nat} {k k' : IntKind} {a b : Int} {v : AV} {hp : Heap} (h : geF3 k a k' b = some v) : binInt P .geq t k a k' b hp = .val v hp := cmp_ok P h fun h => by rw [ltI_eq] at h; exact boolN_some h hp
theorem eqF3_ok {t : Nat} {k k' : IntKind} {a b : Int} {v : AV} {hp : Heap} (h : eqF3 k a k' b = some v) : binInt P .eql t k a k' b hp = .val v hp := cmp_ok P h fun h => by rw [eqI_eq] at h; exact boolO_some h hp
theorem neF3_ok {t : Nat} {k k' : IntKind} {a b : Int} {v : AV} {hp : Heap} (h : neF3 k a k' b = some v) : binInt P .neq t k a k' b hp = .val v hp := cmp_ok P h fun h => by rw [eqI_eq] at h; exact boolN_some h hp
theorem addS4_ok {la a lb b : Nat} {v : AV} {hp : Heap} (h : addS4 la a lb b = some v) : binStr .add la a lb b hp = .val v hp := by
 unfold addS4 strO strO1 strO2 at h
 rw [forceN_eqF, forceN_eqF] at h
 show strV (la + lb) (a + Nat.shiftLeft b (8 * la)) hp = _
 unfold strV
 rw [forceN_eqF, forceN_eqF]
 show cond (Nat.ble (Nat.add la lb) 1000000) _ _ = _
 cases hb : Nat.ble (Nat.add la lb) 1000000 with
 | false => rw [hb] at h; cases h
 | true =>
  rw [hb] at h
  injection h with e; subst e
  rfl
theorem ffB_ok {op : BinOp} {t : Nat} {c : Bool} {x y v : AV} {hp : Heap} (h : (ffB op).f x y = some v) : xBin P op t c x y hp = .val v hp := by
 have no : ∀ {z : Option AV}, none2 x y = some v → False := fun e => nomatch (show none = some v from e)
 cases op
 case add =>
  rcases both2_some h with ⟨k, a, k', b, rfl, rfl, h⟩ | ⟨l, a, l', b, rfl, rfl, h⟩
  ·exact addF3_ok P h
  ·exact addS4_ok h
 case sub =>
  rcases both2_some h with ⟨k, a, k', b, rfl, rfl, h⟩ | ⟨l, a, l', b, rfl, rfl, h⟩
  ·exact subF3_ok P h
  ·exact nomatch (show none = some v from h)
 case eql =>
  rcases both2_some h with ⟨k, a, k', b, rfl, rfl, h⟩ | ⟨l, a, l', b, rfl, rfl, h⟩
  ·exact eqF3_ok P h
  ·exact boolO_some h hp
 case neq =>
  rcases both2_some h with ⟨k, a, k', b, rfl, rfl, h⟩ | ⟨l, a, l', b, rfl, rfl, h⟩
  ·exact neF3_ok P h
  ·exact boolN_some h hp
 case lss =>
  rcases both2_some h with ⟨k, a, k', b, rfl, rfl, h⟩ | ⟨l, a, l', b, rfl, rfl, h⟩
  ·exact ltF3_ok P h
  ·exact nomatch (show none = some v from h)
 case leq =>
  rcases both2_some h with ⟨k, a, k', b, rfl, rfl, h⟩ | ⟨l, a, l', b, rfl, rfl, h⟩
  ·exact leF3_ok P h
  ·exact nomatch (show none = some v from h)
 case gtr =>
  rcases both2_some h with ⟨k, a, k', b, rfl, rfl, h⟩ | ⟨l, a, l', b, rfl, rfl, h⟩
  ·exact gtF3_ok P h
  ·exact nomatch (show none = some v from h)
 case geq =>
  rcases both2_some h with ⟨k, a, k', b, rfl, rfl, h⟩ | ⟨l, a, l', b, rfl, rfl, h⟩
  ·exact geF3_ok P h
  ·exact nomatch (show none = some v from h)
 all_goals exact nomatch (show none = some v from h)
structure OB where
 g : Slots → AV
noncomputable def gS (a b : D8) (T : Slots) : AV := (sel a).f ((sel b).f T.t.lo)
noncomputable def gM (a b c : D8) (T : Slots) : AV := (sel a).f ((sel b).f ((sel c).f T.t.mid))
noncomputable def gH (n : Nat) (T : Slots) : AV := hiGet n T.t.hi
noncomputable def bS (a b : D8) : OB := ⟨gS a b⟩
noncomputable def bM (a b c : D8) : OB := ⟨gM a b c⟩
noncomputable def bH (n : Nat) : OB := ⟨gH n⟩
noncomputable def opT (t : Nat) : OB := SKey.rec (motive := fun _ => OB) bS bM bH (keyOf t)
noncomputable def gC (v : Value) (_ : Slots) : AV := getJ (ofVal v)
noncomputable def opC (v : Value) : OB := ⟨gC v⟩
noncomputable def gG (g : Nat) (_ : Slots) : AV := globA P g
noncomputable def opG (g : Nat) : OB := ⟨gG P g⟩
def gF (f : Nat) (_ : Slots) : AV := .func (.func f) [] []
def opF (f : Nat) : OB := ⟨gF f⟩
noncomputable def opd (x : Operand) : OB := Operand.rec (motive := fun _ => OB) opT opC (opG P) opF x
theorem opd_eq (x : Operand) (T : Slots) : (opd P x).g T = ev P T x := by
 cases x
 case tmp t =>
  show (SKey.rec (motive := fun _ => OB) bS bM bH (keyOf t)).g T = T.t.get (keyOf t)
  generalize keyOf t = k
  cases k <;> rfl
 all_goals rfl
structure GB where
 f : Slots → (AV → St) → St
noncomputable def cS1 (a : D8) (k : AV → St) (x : N8 AV) : St := (rr a).f x k
noncomputable def cS (a b : D8) (T : Slots) (k : AV → St) : St := (rr b).f T.t.lo (cS1 a k)
noncomputable def cM1 (a b : D8) (k : AV → St) (x : N8 (N8 AV)) : St := (rr b).f x (cS1 a k)
noncomputable def cM (a b c : D8) (T : Slots) (k : AV → St) : St := (rr c).f T.t.mid (cM1 a b k)
noncomputable def cH (n : Nat) (T : Slots) (k : AV → St) : St := k (hiGet n T.t.hi)
noncomputable def cbS (a b : D8) : GB := ⟨cS a b⟩
noncomputable def cbM (a b c : D8) : GB := ⟨cM a b c⟩
noncomputable def cbH (n : Nat) : GB := ⟨cH n⟩
noncomputable def okT (t : Nat) : GB := SKey.rec (motive := fun _ => GB) cbS cbM cbH (keyOf t)
def cV (v : AV) (_ : Slots) (k : AV → St) : St := k v
def cbV (v : AV) : GB := ⟨cV v⟩
noncomputable def forceV {α : Type} (v : AV) (k : AV → α) : α := AV.rec (motive_1 := fun _ => α) (motive_2 := fun _ => PUnit) (fun b => k (.bool b)) (fun a b => k (.int a b)) (fun a b => k (.float a b)) (fun a b => k (.str a b)) (k .nilPtr) (fun a b => k (.ptr a b)) (k .nilSlice) (k .emptyS) (fun a b c d => k (.slice a b c d)) (k .nilMap) (fun a => k (.map a)) (fun a b c _ _ => k (.func a b c)) (k .nilFunc) (fun a b _ => k (.iface a b)) (k .nilIface) (fun a _ => k (.agg a)) (fun a _ => k (.tup a)) (k .undef) (k .junk) (fun a b c d => k (.red a b c d)) (fun a b c d => k (.reds a b c d)) (fun a b c _ => k (.tab a b c)) (fun a => k (.ustr a)) (fun a b c => k (.ofs a b c)) (fun a b => k (.sliceG a b)) (k .nan) (fun a b => k (.rng a b)) ⟨⟩ (fun _ _ _ _ => ⟨⟩) v
theorem forceV_eq {α : Type} (v : AV) (k : AV → α) : forceV v k = k v := by cases v <;> rfl
noncomputable def okC (v : Value) : GB := forceV (getJ (ofVal v)) cbV
noncomputable def okG (g : Nat) : GB := forceV (globA P g) cbV
noncomputable def okF (f : Nat) : GB := cbV (.func (.func f) [] [])
noncomputable def opK (x : Operand) : GB := Operand.rec (motive := fun _ => GB) okT okC (okG P) okF x
theorem okT_eq (t : Nat) (T : Slots) (k : AV → St) : (okT t).f T k = k (T.get t) := by
 show (SKey.rec (motive := fun _ => GB) cbS cbM cbH (keyOf t)).f T k = k (T.t.get (keyOf t))
 generalize keyOf t = key
 cases key with
 | s a b => show (rr b).f T.t.lo (cS1 a k) = _; rw [rr_eq]; show (rr a).f _ k = _; rw [rr_eq]; rfl
 | m a b c => show (rr c).f T.t.mid (cM1 a b k) = _; rw [rr_eq]; show (rr b).f _ (cS1 a k) = _; rw [rr_eq]; show (rr a).f _ k = _; rw [rr_eq]; rfl
 | h n => rfl
theorem opK_eq (x : Operand) (T : Slots) (k : AV → St) : (opK P x).f T k = k (ev P T x) := by
 cases x
 case tmp t => exact okT_eq t T k
 case const v => show (forceV (getJ (ofVal v)) cbV).f T k = _; rw [forceV_eq]; rfl
 case global g => show (forceV (globA P g) cbV).f T k = _; rw [forceV_eq]; rfl
 case func f => rfl
structure AB where
 f : Slots → (List AV → St) → St
def aN (_ : Slots) (k : List AV → St) : St := k []
def aC2 (v : AV) (k : List AV → St) (vs : List AV) : St := k (v :: vs)
def aC1 (ih : AB) (T : Slots) (k : List AV → St) (v : AV) : St := ih.f T (aC2 v k)
def aC (g : GB) (ih : AB) (T : Slots) (k : List AV → St) : St := g.f T (aC1 ih T k)
noncomputable def argC (x : Operand) (_ : List Operand) (ih : AB) : AB := ⟨aC (opK P x) ih⟩
noncomputable def argK (xs : List Operand) : AB := List.rec (motive := fun _ => AB) ⟨aN⟩ (argC P) xs
theorem argK_eq (T : Slots) : ∀ (xs : List Operand) (k : List AV → St), (argK P xs).f T k = k (evs P T xs)
 | [], k => rfl
 | x :: r, k => by
  show (opK P x).f T (aC1 (argK P r) T k) = _
  rw [opK_eq]
  show (argK P r).f T (aC2 (ev P T x) k) = _
  rw [argK_eq T r]; rfl
abbrev XK := Slots → Heap → (AV → Heap → St) → (Res → St) → St
structure XB where
 f : XK
def Good (f : XK) (g : XF) : Prop := ∀ T h next slow, (∀ v h, slow (Res.val v h) = next v h) → f T h next slow = slow (g T h)
def kSlow (g : XF) : XK := fun T h _ slow => slow (g T h)
def xSlow (g : XF) : XB := ⟨kSlow g⟩
theorem kSlow_good (g : XF) : Good (kSlow g) g := fun _ _ _ _ _ => rfl
def kN (next : AV → Heap → St) (h : Heap) (v : AV) : St := next v h
noncomputable def kO (g : XF) (T : Slots) (h : Heap) (next : AV → Heap → St) (slow : Res → St) (o : Option AV) : St := Option.rec (motive := fun _ => St) (slow (g T h)) (kN next h) o
theorem kO_good {g : XF} {T : Slots} {h : Heap} {next : AV → Heap → St} {slow : Res → St} (hs : ∀ v h, slow (Res.val v h) = next v h) {o : Option AV} (ho : ∀ v, o = some v → g T h = .val v h) : kO g T h next slow o = slow (g T h) := by
 cases o with
 | none => rfl
 | some v => show next v h = _; rw [ho v rfl, hs]
def kMove (x : GB) : XK := fun T h next _ => x.f T (kN next h)
noncomputable def kF2 (ff : AV → AV → Option AV) (g : XF) (x y : Slots → AV) : XK := fun T h next slow => kO g T h next slow (ff (x T) (y T))
noncomputable def xbMove (x : Operand) : XB := ⟨kMove (opK P x)⟩
noncomputable def xbBin (op : BinOp) (t : Nat) (x y : Operand) (u : Nat) : XB := ⟨kF2 (ffB op).f (cBin P op t x y u) (opd P x).g (opd P y).g⟩
theorem xbMove_good (x : Operand) : Good (xbMove P x).f (cMove P x) := fun T h next slow hs => by
 show (opK P x).f T (kN next h) = slow (.val (ev P T x) h)
 rw [opK_eq, hs]; rfl
theorem xbBin_good (op : BinOp) (t : Nat) (x y : Operand) (u : Nat) : Good (xbBin P op t x y u).f (cBin P op t x y u) := fun T h next slow hs =>
 kO_good hs fun v hv => by
  rw [opd_eq, opd_eq] at hv
  exact ffB_ok P hv
noncomputable def kF1 (ff : Heap → AV → Option AV) (g : XF) (x : Slots → AV) : XK := fun T h next slow => kO g T h next slow (ff h (x T))
theorem kF1_good {ff : Heap → AV → Option AV} {g : XF} {x : Operand} (hf : ∀ T h v, ff h (ev P T x) = some v → g T h = .val v h) : Good (kF1 ff g (opd P x).g) g := fun T h next slow hs =>
 kO_good hs fun v hv => by rw [opd_eq] at hv; exact hf T h v hv
noncomputable def nthS (x : AV) (ih : Nat → Option AV) (n : Nat) : Option AV := Nat.rec (motive := fun _ => Option AV) (some x) (fun m _ => ih m) n
noncomputable def nthO (l : List AV) : Nat → Option AV := List.rec (motive := fun _ => Nat → Option AV) (fun _ => none) (fun x _ ih => nthS x ih) l
theorem drop_nil {α : Type} (n : Nat) : drop n ([] : List α) = [] := by cases n <;> rfl
theorem nthO_eq : ∀ (l : List AV) (n : Nat), nthO l n = hd (drop n l)
 | [], n => by rw [drop_nil]; rfl
 | x :: r, 0 => rfl
 | x :: r, n + 1 => nthO_eq r n
noncomputable def objCells (o : AObj) : Option (List AV) := AObj.rec (motive := fun _ => Option (List AV)) (fun _ cs _ _ => some cs) (fun _ cs => some cs) none (fun _ _ => none) (fun _ _ _ => none) (fun _ _ _ _ => none) (fun _ _ _ _ _ _ _ _ => none) (fun _ => none) (fun _ _ _ => none) (fun _ => none) (fun _ => none) (fun _ => none) (fun _ _ => none) (fun _ _ => none) (fun _ _ _ _ => none) (fun _ _ _ => none) (fun _ _ => none) (fun _ _ => none) (fun _ _ _ _ => none) (fun _ _ _ => none) o
noncomputable def nthAt (off : Nat) (cs : List AV) : Option AV := nthO cs off
noncomputable def cellObj (off : Nat) (o : AObj) : Option AV := Option.rec (motive := fun _ => Option AV) none (nthAt off) (objCells o)
noncomputable def cellF (h : Heap) (b : Key) (off : Nat) : Option AV := Option.rec (motive := fun _ => Option AV) none (cellObj off) (h.t.get b)
theorem cellF_eq (h : Heap) (b : Key) (off : Nat) : cellF h b off = cellAt h b off := by
 obtain ⟨t, n⟩ := h
 show Option.rec (motive := fun _ => Option AV) none (cellObj off) (t.get b) = Option.rec (motive := fun _ => Option AV) none (fun cs => hd (drop off cs)) (cellsOf (t.get b))
 cases t.get b with
 | none => rfl
 | some o => cases o <;> first | rfl | exact nthO_eq _ _
noncomputable def ldF (h : Heap) (v : AV) : Option AV := PR.rec (motive := fun _ => Option AV) none (cellF h) v.pr
noncomputable def xbLoad (t : Nat) (x : Operand) : XB := cond (and (known P t) (not (isAggT P t))) ⟨kF1 ldF (cLoad P t x) (opd P x).g⟩ (xSlow (cLoad P t x))
theorem xbLoad_good (t : Nat) (x : Operand) : Good (xbLoad P t x).f (cLoad P t x) := by
 unfold xbLoad
 cases hk : known P t with
 | false => exact kSlow_good _
 | true => cases ha : isAggT P t with
  | true => exact kSlow_good _
  | false =>
   refine kF1_good P fun T h v hv => ?_
   unfold ldF at hv
   cases hp : (ev P T x).pr with
   | no => rw [hp] at hv; exact nomatch (show none = some v from hv)
   | p b off =>
    rw [hp] at hv
    have hv : cellF h b off = some v := hv
    rw [cellF_eq] at hv
    have e := AV.pr_is hp
    show xLoad P t (ev P T x) h = _
    rw [e]
    show cond (isAggT P t) _ (cond (known P t) (okv (cellAt h b off) h "load") (.bad "load type")) = _
    rw [ha, hk, hv]; rfl
def faP (b : Key) (o : Nat) : Option AV := some (.ptr b o)
noncomputable def faN (o : Nat) (b : Key) (off : Nat) : Option AV := forceN (Nat.add off o) (faP b)
noncomputable def faF (o : Nat) (_ : Heap) (v : AV) : Option AV := PR.rec (motive := fun _ => Option AV) none (faN o) v.pr
noncomputable def xbFieldAddr (s : Nat) (x : Operand) (f : Nat) : XB := cond (okField P s f) ⟨kF1 (faF (offOf P s f)) (cFieldAddr P s x f) (opd P x).g⟩ (xSlow (cFieldAddr P s x f))
theorem xbFieldAddr_good (s : Nat) (x : Operand) (f : Nat) : Good (xbFieldAddr P s x f).f (cFieldAddr P s x f) := by
 unfold xbFieldAddr
 cases hk : okField P s f with
 | false => exact kSlow_good _
 | true =>
  refine kF1_good P fun T h v hv => ?_
  unfold faF at hv
  cases hp : (ev P T x).pr with
  | no => rw [hp] at hv; exact nomatch (show none = some v from hv)
  | p b off =>
   rw [hp] at hv
   have hv : forceN (Nat.add off (offOf P s f)) (faP b) = some v := hv
   rw [forceN_eqF] at hv
   injection hv with hv
   subst hv
   have e := AV.pr_is hp
   show xFieldAddr P s f (ev P T x) h = _
   rw [e]
   show cond (okField P s f) (forceN (off + offOf P s f) (fun o => Res.val (.ptr b o) h)) _ = _
   rw [hk, forceN_eqF]; rfl
noncomputable def nilF (v : AV) : Option AV := PR.rec (motive := fun _ => Option AV) none (fun b o => some (.ptr b o)) v.pr
noncomputable def nilH (_ : Heap) (v : AV) : Option AV := nilF v
noncomputable def xbNil (x : Operand) : XB := ⟨kF1 nilH (cNil P x) (opd P x).g⟩
theorem xbNil_good (x : Operand) : Good (xbNil P x).f (cNil P x) := by
 refine kF1_good P fun T h v hv => ?_
 have hv : nilF (ev P T x) = some v := hv
 unfold nilF at hv
 cases hp : (ev P T x).pr with
 | no => rw [hp] at hv; exact nomatch (show none = some v from hv)
 | p b off =>
  rw [hp] at hv
  injection hv with hv
  subst hv
  show xNil (ev P T x) h = _
  rw [AV.pr_is hp]; rfl
noncomputable def exN (i : Nat) (vs : List AV) : Option AV := nthO vs i
noncomputable def exF (i : Nat) (_ : Heap) (v : AV) : Option AV := TR.rec (motive := fun _ => Option AV) none (exN i) v.tr
noncomputable def xbExtract (x : Operand) (i : Nat) : XB := ⟨kF1 (exF i) (cExtract P x i) (opd P x).g⟩
theorem xbExtract_good (x : Operand) (i : Nat) : Good (xbExtract P x i).f (cExtract P x i) := by
 refine kF1_good P fun T h v hv => ?_
 unfold exF at hv
 cases hp : (ev P T x).tr with
 | no => rw [hp] at hv; exact nomatch (show none = some v from hv)
 | t vs =>
  rw [hp] at hv
  have hv : nthO vs i = some v := hv
  rw [nthO_eq] at hv
  show xExtract (ev P T x) i h = _
  rw [AV.tr_is hp]
  show okv (hd (drop i vs)) h "extract" = _
  rw [hv]; rfl
noncomputable def notF (_ : Heap) (v : AV) : Option AV := BR.rec (motive := fun _ => Option AV) none boolN v.br
noncomputable def noneH (_ : Heap) (_ : AV) : Option AV := none
structure HB where
 f : Heap → AV → Option AV
noncomputable def unB (op : UnOp) : HB := UnOp.rec (motive := fun _ => HB) ⟨noneH⟩ ⟨noneH⟩ ⟨notF⟩ ⟨noneH⟩ op
noncomputable def xbUn (op : UnOp) (t : Nat) (x : Operand) : XB := ⟨kF1 (unB op).f (cUn P op t x) (opd P x).g⟩
theorem xbUn_good (op : UnOp) (t : Nat) (x : Operand) : Good (xbUn P op t x).f (cUn P op t x) := by
 refine kF1_good P fun T h v hv => ?_
 cases op
 case not =>
  have hv : notF h (ev P T x) = some v := hv
  unfold notF at hv
  cases hp : (ev P T x).br with
  | no => rw [hp] at hv; exact nomatch (show none = some v from hv)
  | b c =>
   rw [hp] at hv
   show xUn P .not (ev P T x) h = _
   rw [AV.br_is hp]
   exact boolN_some hv h
 all_goals exact nomatch (show none = some v from hv)
noncomputable def iaN (sz : Nat) (b : Key) (off n i : Nat) : Option AV := cond (Nat.blt i n) (forceN (Nat.add off (Nat.mul i sz)) (faP b)) none
noncomputable def iaV (sz : Nat) (y : AV) (b : Key) (off n : Nat) (_ : ACap) : Option AV := Option.rec (motive := fun _ => Option AV) none (iaN sz b off n) y.nr
noncomputable def iaF (sz : Nat) (x y : AV) : Option AV := VR.rec (motive := fun _ => Option AV) none (iaV sz y) x.vr
def slE (d : Option TypeDesc) : Option Nat := match d with
 | some (.slice e) => some e
 | _ => none
noncomputable def xbIA1 (t : Nat) (x i : Operand) (e : Nat) : XB := cond (posT P e) ⟨kF2 (iaF (szOf P e)) (cIndexAddr P t x i) (opd P x).g (opd P i).g⟩ (xSlow (cIndexAddr P t x i))
noncomputable def xbIndexAddr (t : Nat) (x i : Operand) : XB := Option.rec (motive := fun _ => XB) (xSlow (cIndexAddr P t x i)) (xbIA1 P t x i) (slE (P.underlying t))
theorem xbIndexAddr_good (t : Nat) (x i : Operand) : Good (xbIndexAddr P t x i).f (cIndexAddr P t x i) := by
 unfold xbIndexAddr
 cases hu : slE (P.underlying t) with
 | none => exact kSlow_good _
 | some e =>
  have hu' : P.underlying t = some (.slice e) := by
   unfold slE at hu
   split at hu
   ·injection hu with hu; subst hu; assumption
   ·cases hu
  show Good (xbIA1 P t x i e).f _
  unfold xbIA1
  cases hk : posT P e with
  | false => exact kSlow_good _
  | true =>
   refine fun T h next slow hs => kO_good hs fun v hv => ?_
   rw [opd_eq, opd_eq] at hv
   unfold iaF at hv
   cases hp : (ev P T x).vr with
   | no => rw [hp] at hv; exact nomatch (show none = some v from hv)
   | v b off n cap =>
    rw [hp] at hv
    have hv : iaV (szOf P e) (ev P T i) b off n cap = some v := hv
    unfold iaV at hv
    cases hi : (ev P T i).nr with
    | none => rw [hi] at hv; exact nomatch (show none = some v from hv)
    | some j =>
     rw [hi] at hv
     have hv : cond (Nat.blt j n) (forceN (Nat.add off (Nat.mul j (szOf P e))) (faP b)) none = some v := hv
     cases hb : Nat.blt j n with
     | false => rw [hb] at hv; cases hv
     | true =>
      rw [hb] at hv
      have hv : forceN (Nat.add off (Nat.mul j (szOf P e))) (faP b) = some v := hv
      rw [forceN_eqF] at hv
      injection hv with hv
      subst hv
      obtain ⟨k, hj⟩ := AV.nr_is hi
      show xIndexAddr P t (ev P T x) (ev P T i) h = _
      rw [AV.vr_is hp, hj]
      show cond (Nat.blt j n) (match P.underlying t with | some (.slice e) => cond (posT P e) (forceN (off + j * szOf P e) (fun o => Res.val (.ptr b o) h)) (Res.bad "indexAddr") | _ => Res.bad "indexAddr") _ = _
      rw [hb, hu']
      show cond (posT P e) (forceN (off + j * szOf P e) (fun o => Res.val (.ptr b o) h)) _ = _
      rw [hk, forceN_eqF]; rfl
def u8O (c : Nat) : Option AV := some (.int .u8 (.ofNat c))
noncomputable def ixN (l c i : Nat) : Option AV := cond (Nat.blt i l) (forceN (Nat.mod (Nat.shiftRight c (Nat.mul 8 i)) 256) u8O) none
noncomputable def ixS (y : AV) (l c : Nat) : Option AV := Option.rec (motive := fun _ => Option AV) none (ixN l c) y.nr
noncomputable def ixF (x y : AV) : Option AV := SR.rec (motive := fun _ => Option AV) none (ixS y) x.sr
noncomputable def xbIndex (t : Nat) (x i : Operand) : XB := cond (isStrT P t) ⟨kF2 ixF (cIndex P t x i) (opd P x).g (opd P i).g⟩ (xSlow (cIndex P t x i))
theorem xbIndex_good (t : Nat) (x i : Operand) : Good (xbIndex P t x i).f (cIndex P t x i) := by
 unfold xbIndex
 cases hk : isStrT P t with
 | false => exact kSlow_good _
 | true =>
  refine fun T h next slow hs => kO_good hs fun v hv => ?_
  rw [opd_eq, opd_eq] at hv
  unfold ixF at hv
  cases hp : (ev P T x).sr with
  | no => rw [hp] at hv; exact nomatch (show none = some v from hv)
  | s l c =>
   rw [hp] at hv
   have hv : ixS (ev P T i) l c = some v := hv
   unfold ixS at hv
   cases hi : (ev P T i).nr with
   | none => rw [hi] at hv; exact nomatch (show none = some v from hv)
   | some j =>
    rw [hi] at hv
    have hv : cond (Nat.blt j l) (forceN (Nat.mod (Nat.shiftRight c (Nat.mul 8 j)) 256) u8O) none = some v := hv
    cases hb : Nat.blt j l with
    | false => rw [hb] at hv; cases hv
    | true =>
     rw [hb] at hv
     have hv : forceN (Nat.mod (Nat.shiftRight c (Nat.mul 8 j)) 256) u8O = some v := hv
     rw [forceN_eqF] at hv
     injection hv with hv
     subst hv
     obtain ⟨k, hj⟩ := AV.nr_is hi
     show xIndexC P t (ev P T x) (ev P T i) h = _
     rw [AV.sr_is hp, hj]
     show cond (isStrT P t) (cond (Nat.blt j l) (forceN (Nat.mod (Nat.shiftRight c (8 * j)) 256) (fun c => Res.val (.int .u8 (Int.ofNat c)) h)) _) _ = _
     rw [hk, hb]
     show forceN (Nat.mod (Nat.shiftRight c (8 * j)) 256) (fun c => Res.val (.int .u8 (Int.ofNat c)) h) = _
     rw [forceN_eqF]; rfl
noncomputable def consO (x : AV) (o : Option (List AV)) : Option (List AV) := Option.rec (motive := fun _ => Option (List AV)) none (fun l => some (x :: l)) o
noncomputable def setS1 (v x : AV) (r : List AV) (ih : Nat → Option (List AV)) (n : Nat) : Option (List AV) := Nat.rec (motive := fun _ => Option (List AV)) (some (v :: r)) (fun m _ => consO x (ih m)) n
noncomputable def setNth (v : AV) (l : List AV) : Nat → Option (List AV) := List.rec (motive := fun _ => Nat → Option (List AV)) (fun _ => none) (fun x r ih => setS1 v x r ih) l
theorem setNth_some {v : AV} : ∀ {l : List AV} {n : Nat} {l' : List AV}, setNth v l n = some l' → Nat.ble (n + 1) (len l) = true ∧ l' = splice l n [v]
 | [], n, l', h => nomatch (show none = some l' from h)
 | x :: r, 0, l', h => by
  have h : some (v :: r) = some l' := h
  injection h with h; subst h
  exact ⟨by show Nat.ble 1 (len r + 1) = true; exact Nat.ble_eq.mpr (by omega), rfl⟩
 | x :: r, n + 1, l', h => by
  have h : consO x (setNth v r n) = some l' := h
  cases hr : setNth v r n with
  | none => rw [hr] at h; exact nomatch (show none = some l' from h)
  | some l2 =>
   rw [hr] at h
   have h : some (x :: l2) = some l' := h
   injection h with h; subst h
   obtain ⟨h1, h2⟩ := setNth_some hr
   refine ⟨?_, ?_⟩
   ·have := Nat.ble_eq.mp h1
    show Nat.ble (n + 1 + 1) (len r + 1) = true
    exact Nat.ble_eq.mpr (by omega)
   ·rw [h2]; rfl
noncomputable def stPut (h : Heap) (b : Key) (e : Nat) (o : Bool) (fz : Nat) (cs : List AV) : Option Heap := some ⟨h.t.set (.cells e cs o fz) b, h.next⟩
noncomputable def stCells (h : Heap) (b : Key) (off : Nat) (v : AV) (e : Nat) (cs : List AV) (o : Bool) (fz : Nat) : Option Heap := cond (Nat.ble fz off) (Option.rec (motive := fun _ => Option Heap) none (stPut h b e o fz) (setNth v cs off)) none
noncomputable def stObj (h : Heap) (b : Key) (off : Nat) (v : AV) (o : AObj) : Option Heap := AObj.rec (motive := fun _ => Option Heap) (stCells h b off v) (fun _ _ => none) none (fun _ _ => none) (fun _ _ _ => none) (fun _ _ _ _ => none) (fun _ _ _ _ _ _ _ _ => none) (fun _ => none) (fun _ _ _ => none) (fun _ => none) (fun _ => none) (fun _ => none) (fun _ _ => none) (fun _ _ => none) (fun _ _ _ _ => none) (fun _ _ _ => none) (fun _ _ => none) (fun _ _ => none) (fun _ _ _ _ => none) (fun _ _ _ => none) o
noncomputable def store1 (h : Heap) (v : AV) (b : Key) (off : Nat) : Option Heap := Option.rec (motive := fun _ => Option Heap) none (stObj h b off v) (h.t.get b)
theorem store1_some {h h' : Heap} {v : AV} {b : Key} {off : Nat} (hv : v.one = true) (hs : store1 h v b off = some h') : setCells h b off v.cells = some h' := by
 have hc : v.cells = [v] := by cases v <;> first | rfl | cases hv
 rw [hc]
 obtain ⟨t, nx⟩ := h
 have hs : Option.rec (motive := fun _ => Option Heap) none (stObj ⟨t, nx⟩ b off v) (t.get b) = some h' := hs
 show (match t.get b with
  | some (.cells e cs o fz) => cond (Nat.ble (off + 1) (len cs)) (cond (allOne [v]) (cond (Nat.ble fz off) (some (Heap.put ⟨t, nx⟩ b (.cells e (splice cs off [v]) o fz))) none) none) none
  | _ => none) = some h'
 cases hg : t.get b with
 | none => rw [hg] at hs; exact nomatch (show none = some h' from hs)
 | some o =>
  rw [hg] at hs
  have hs : stObj ⟨t, nx⟩ b off v o = some h' := hs
  cases o with
  | cells e cs op fz =>
   have hs : cond (Nat.ble fz off) (Option.rec (motive := fun _ => Option Heap) none (stPut ⟨t, nx⟩ b e op fz) (setNth v cs off)) none = some h' := hs
   cases hf : Nat.ble fz off with
   | false => rw [hf] at hs; cases hs
   | true =>
    rw [hf] at hs
    have hs : Option.rec (motive := fun _ => Option Heap) none (stPut ⟨t, nx⟩ b e op fz) (setNth v cs off) = some h' := hs
    cases hn : setNth v cs off with
    | none => rw [hn] at hs; exact nomatch (show none = some h' from hs)
    | some l =>
     rw [hn] at hs
     obtain ⟨h1, rfl⟩ := setNth_some hn
     have h3 : allOne [v] = true := by show cond v.one true false = true; rw [hv]; rfl
     show cond (Nat.ble (off + 1) (len cs)) (cond (allOne [v]) (cond (Nat.ble fz off) (some (Heap.put ⟨t, nx⟩ b (.cells e (splice cs off [v]) op fz))) none) none) none = some h'
     rw [h1, h3, hf]; exact hs
  | _ => exact nomatch (show none = some h' from hs)
def kU (next : AV → Heap → St) (h : Heap) : St := next .undef h
noncomputable def stF (h : Heap) (a v : AV) : Option Heap := cond v.oneF (PR.rec (motive := fun _ => Option Heap) none (store1 h v) a.pr) none
inductive CO where | no | c (e : Nat) (cs : List AV) (o : Bool) (fz : Nat)
noncomputable def objC (o : AObj) : CO := AObj.rec (motive := fun _ => CO) (fun e cs o fz => .c e cs o fz) (fun _ _ => .no) .no (fun _ _ => .no) (fun _ _ _ => .no) (fun _ _ _ _ => .no) (fun _ _ _ _ _ _ _ _ => .no) (fun _ => .no) (fun _ _ _ => .no) (fun _ => .no) (fun _ => .no) (fun _ => .no) (fun _ _ => .no) (fun _ _ => .no) (fun _ _ _ _ => .no) (fun _ _ _ => .no) (fun _ _ => .no) (fun _ _ => .no) (fun _ _ _ _ => .no) (fun _ _ _ => .no) o
noncomputable def kSt5 (h : Heap) (next : AV → Heap → St) (b : Key) (e : Nat) (o : Bool) (fz : Nat) (cs : List AV) : St := hput h b (.cells e cs o fz) (kU next)
noncomputable def kSt4 (h : Heap) (next : AV → Heap → St) (w : St) (v : AV) (b : Key) (off : Nat) (e : Nat) (cs : List AV) (o : Bool) (fz : Nat) : St := Bool.rec (motive := fun _ => St) w (Option.rec (motive := fun _ => St) w (kSt5 h next b e o fz) (setNth v cs off)) (Nat.ble fz off)
noncomputable def kSt3 (h : Heap) (next : AV → Heap → St) (w : St) (v : AV) (b : Key) (off : Nat) (o : AObj) : St := CO.rec (motive := fun _ => St) w (kSt4 h next w v b off) (objC o)
noncomputable def kSt2 (h : Heap) (next : AV → Heap → St) (w : St) (v : AV) (b : Key) (off : Nat) : St := Option.rec (motive := fun _ => St) w (kSt3 h next w v b off) (h.t.get b)
noncomputable def kSt (x : Slots → AV) (T : Slots) (h : Heap) (next : AV → Heap → St) (w : St) (v : AV) : St := Bool.rec (motive := fun _ => St) w (PR.rec (motive := fun _ => St) w (kSt2 h next w v) (x T).pr) v.oneF
noncomputable def kStore (g : XF) (x : Slots → AV) (y : GB) : XK := fun T h next slow => y.f T (kSt x T h next (slow (g T h)))
theorem kSt_eq (x : Slots → AV) (T : Slots) (h : Heap) (next : AV → Heap → St) (w : St) (v : AV) : kSt x T h next w v = Option.rec (motive := fun _ => St) w (kU next) (stF h (x T) v) := by
 unfold kSt stF
 cases v.oneF with
 | false => rfl
 | true =>
  show PR.rec (motive := fun _ => St) w (kSt2 h next w v) (x T).pr = Option.rec (motive := fun _ => St) w (kU next) (PR.rec (motive := fun _ => Option Heap) none (store1 h v) (x T).pr)
  cases (x T).pr with
  | no => rfl
  | p b off =>
   show Option.rec (motive := fun _ => St) w (kSt3 h next w v b off) (h.t.get b) = Option.rec (motive := fun _ => St) w (kU next) (Option.rec (motive := fun _ => Option Heap) none (stObj h b off v) (h.t.get b))
   cases h.t.get b with
   | none => rfl
   | some o =>
    cases o with
    | cells e cs op fz =>
     show Bool.rec (motive := fun _ => St) w (Option.rec (motive := fun _ => St) w (kSt5 h next b e op fz) (setNth v cs off)) (Nat.ble fz off) = Option.rec (motive := fun _ => St) w (kU next) (cond (Nat.ble fz off) (Option.rec (motive := fun _ => Option Heap) none (stPut h b e op fz) (setNth v cs off)) none)
     cases Nat.ble fz off with
     | false => rfl
     | true =>
      show Option.rec (motive := fun _ => St) w (kSt5 h next b e op fz) (setNth v cs off) = Option.rec (motive := fun _ => St) w (kU next) (Option.rec (motive := fun _ => Option Heap) none (stPut h b e op fz) (setNth v cs off))
      cases setNth v cs off with
      | none => rfl
      | some l => show hput h b (.cells e l op fz) (kU next) = _; rw [hput_eq]; rfl
    | _ => rfl
noncomputable def xbStore (t : Nat) (a v : Operand) : XB := cond (and (known P t) (Nat.beq 1 (szOf P t))) ⟨kStore (cStore P t a v) (opd P a).g (opK P v)⟩ (xSlow (cStore P t a v))
theorem xbStore_good (t : Nat) (a v : Operand) : Good (xbStore P t a v).f (cStore P t a v) := by
 unfold xbStore
 cases hk : and (known P t) (Nat.beq 1 (szOf P t)) with
 | false => exact kSlow_good _
 | true =>
  refine fun T h next slow hs => ?_
  show (opK P v).f T (kSt (opd P a).g T h next (slow (cStore P t a v T h))) = _
  rw [opK_eq, kSt_eq, opd_eq]
  cases ho : stF h (ev P T a) (ev P T v) with
  | none => rfl
  | some h' =>
   show next .undef h' = _
   unfold stF at ho
   rw [AV.oneF_eq] at ho
   cases h1 : (ev P T v).one with
   | false => rw [h1] at ho; cases ho
   | true =>
    rw [h1] at ho
    have ho : PR.rec (motive := fun _ => Option Heap) none (store1 h (ev P T v)) (ev P T a).pr = some h' := ho
    cases hp : (ev P T a).pr with
    | no => rw [hp] at ho; exact nomatch (show none = some h' from ho)
    | p b off =>
     rw [hp] at ho
     have ho := store1_some h1 ho
     have hl : len (ev P T v).cells = 1 := by
      have : ∀ x : AV, x.one = true → len x.cells = 1 := fun x hx => by cases x <;> first | rfl | cases hx
      exact this _ h1
     have : cStore P t a v T h = .val .undef h' := by
      show xStore P t (ev P T a) (ev P T v) h = _
      rw [AV.pr_is hp]
      show cond (and (known P t) (Nat.beq (len (ev P T v).cells) (szOf P t))) (match setCells h b off (ev P T v).cells with | some h => Res.val .undef h | none => storeB b off (ev P T v) h (h.get b)) _ = _
      rw [hl, hk, ho]; rfl
     rw [this, hs]
noncomputable def lenS (_ : Heap) (v : AV) : Option AV := SR.rec (motive := fun _ => Option AV) none (fun l _ => some (.int .i64 (.ofNat l))) v.sr
noncomputable def lenV (_ : Heap) (v : AV) : Option AV := VR.rec (motive := fun _ => Option AV) none (fun _ _ l _ => some (.int .i64 (.ofNat l))) v.vr
noncomputable def lenB (d : Option TypeDesc) : HB := match d with
 | some .string => ⟨lenS⟩
 | some (.slice _) => ⟨lenV⟩
 | _ => ⟨noneH⟩
theorem lenB_ok {t : Nat} {h : Heap} {x v : AV} (hv : (lenB (P.underlying t)).f h x = some v) : xLen P t x h = .val v h := by
 unfold xLen
 cases hu : P.underlying t with
 | none => rw [hu] at hv; exact nomatch (show none = some v from hv)
 | some d =>
  rw [hu] at hv
  cases d
  case string =>
   have hv : lenS h x = some v := hv
   unfold lenS at hv
   cases hp : x.sr with
   | no => rw [hp] at hv; exact nomatch (show none = some v from hv)
   | s l c =>
    rw [hp] at hv
    have hv : some (AV.int .i64 (.ofNat l)) = some v := hv
    injection hv with hv; subst hv
    rw [AV.sr_is hp]
  case slice e =>
   have hv : lenV h x = some v := hv
   unfold lenV at hv
   cases hp : x.vr with
   | no => rw [hp] at hv; exact nomatch (show none = some v from hv)
   | v b o l c =>
    rw [hp] at hv
    have hv : some (AV.int .i64 (.ofNat l)) = some v := hv
    injection hv with hv; subst hv
    rw [AV.vr_is hp]
  all_goals exact nomatch (show none = some v from hv)
def kPtr (next : AV → Heap → St) (b : Key) (h : Heap) : St := next (.ptr b 0) h
noncomputable def kAl (e : Nat) (cs : List AV) : XK := fun _ h next slow => halloc h (.cells e cs false 0) (kPtr next) (slow (.bad "key"))
noncomputable def xbAl1 (e : Nat) (z : AV) : XB := ⟨kAl e z.cells⟩
noncomputable def xbAlloc (e : Nat) : XB := Option.rec (motive := fun _ => XB) (xSlow (cAlloc P e)) (xbAl1 e) (zeroOf P e)
theorem xbAlloc_good (e : Nat) : Good (xbAlloc P e).f (cAlloc P e) := by
 unfold xbAlloc
 cases hz : zeroOf P e with
 | none => exact kSlow_good _
 | some z =>
  intro T h next slow hs
  show halloc h (.cells e z.cells false 0) (kPtr next) (slow (.bad "key")) = slow (xAlloc P e h)
  unfold xAlloc
  rw [hz]
  exact halloc_eq h _ (fun b h => .val (.ptr b 0) h) (kPtr next) slow (fun b h => hs _ _)
noncomputable def kBx (e : Nat) (h : Heap) (next : AV → Heap → St) (w b : St) (v : AV) : St := Bool.rec (motive := fun _ => St) w (halloc h (.cells e [v] false 0) (kPtr next) b) v.oneF
noncomputable def kBox (g : XF) (e : Nat) (y : GB) : XK := fun T h next slow => y.f T (kBx e h next (slow (g T h)) (slow (.bad "key")))
noncomputable def xbBox (e : Nat) (v : Operand) : XB := ⟨kBox (cBox P e v) e (opK P v)⟩
theorem xbBox_good (e : Nat) (v : Operand) : Good (xbBox P e v).f (cBox P e v) := by
 intro T h next slow hs
 show (opK P v).f T (kBx e h next (slow (cBox P e v T h)) (slow (.bad "key"))) = _
 rw [opK_eq]
 unfold kBx
 rw [AV.oneF_eq]
 cases h1 : (ev P T v).one with
 | false => rfl
 | true =>
  show halloc h (.cells e [ev P T v] false 0) (kPtr next) (slow (.bad "key")) = slow (xBox e (ev P T v) h)
  have hc : (ev P T v).cells = [ev P T v] ∧ (ev P T v).sure = true := by
   generalize ev P T v = x at h1
   cases x <;> first | exact ⟨rfl, rfl⟩ | cases h1
  unfold xBox
  rw [hc.1, hc.2]
  exact halloc_eq h _ (fun b h => .val (.ptr b 0) h) (kPtr next) slow (fun b h => hs _ _)
inductive FR where | no | f (g : Nat) (first cap : List AV)
inductive AFR where | no | f (g : Nat)
noncomputable def afr (x : AFn) : AFR := AFn.rec (motive := fun _ => AFR) (fun g => .f g) (fun _ => .no) x
noncomputable def frG (first cap : List AV) (x : AFR) : FR := AFR.rec (motive := fun _ => FR) .no (fun g => .f g first cap) x
noncomputable def AV.fr (v : AV) : FR := AV.rec (motive_1 := fun _ => FR) (motive_2 := fun _ => PUnit) (fun _ => .no) (fun _ _ => .no) (fun _ _ => .no) (fun _ _ => .no) .no (fun _ _ => .no) .no .no (fun _ _ _ _ => .no) .no (fun _ => .no) (fun x a b _ _ => frG a b (afr x)) .no (fun _ _ _ => .no) .no (fun _ _ => .no) (fun _ _ => .no) .no .no (fun _ _ _ _ => .no) (fun _ _ _ _ => .no) (fun _ _ _ _ => .no) (fun _ => .no) (fun _ _ _ => .no) (fun _ _ => .no) .no (fun _ _ => .no) ⟨⟩ (fun _ _ _ _ => ⟨⟩) v
theorem AV.fr_is {v : AV} {g : Nat} {a b : List AV} (h : v.fr = .f g a b) : v = .func (.func g) a b := by
 cases v
 case func x a' b' =>
  cases x with
  | func g' => have h : FR.f g' a' b' = FR.f g a b := h; injection h with e0 e1 e2; subst e0; subst e1; subst e2; rfl
  | yield l => exact nomatch (show FR.no = FR.f g a b from h)
 all_goals exact nomatch (show FR.no = FR.f g a b from h)
def kCall2 (slow : Res → St) (args : List AV) (h : Heap) (g : Nat) (first cap : List AV) : St := slow (.enter g (cat first (cat args cap)) h)
noncomputable def kCall1 (x : Slots → AV) (T : Slots) (h : Heap) (slow : Res → St) (args : List AV) : St := FR.rec (motive := fun _ => St) (slow (xCallV (x T) args h)) (kCall2 slow args h) (x T).fr
noncomputable def kCall (x : Slots → AV) (as : AB) : XK := fun T h _ slow => as.f T (kCall1 x T h slow)
theorem kCall1_eq (x : Slots → AV) (T : Slots) (h : Heap) (slow : Res → St) (args : List AV) : kCall1 x T h slow args = slow (xCallV (x T) args h) := by
 unfold kCall1
 cases hf : (x T).fr with
 | no => rfl
 | f g a b => rw [AV.fr_is hf]; rfl
noncomputable def xbCallV (f : Operand) (args : List Operand) : XB := ⟨kCall (opd P f).g (argK P args)⟩
noncomputable def lenOf (c : Call) (ts : List Nat) (args : List Operand) : XB := match ts, args with
 | t :: _, [x] => ⟨kF1 (lenB (P.underlying t)).f (cCall P c) (opd P x).g⟩
 | _, _ => xSlow (cCall P c)
noncomputable def xbCall (c : Call) : XB := match c.callee with
 | .value f => xbCallV P f c.args.toList
 | .builtin .len => lenOf P c c.argTypes.toList c.args.toList
 | _ => xSlow (cCall P c)
end
end Go.VM
namespace Go.VM
section
variable (P : Program)
theorem xbCall_good (c : Call) : Good (xbCall P c).f (cCall P c) := by
 unfold xbCall
 split
 ·rename_i f hc
  obtain ⟨cl, as, tys⟩ := c
  have hc : cl = .value f := hc
  subst hc
  intro T h next slow hs
  show (argK P as.toList).f T (kCall1 (opd P f).g T h slow) = slow (xCallV (ev P T f) (evs P T as.toList) h)
  rw [argK_eq, kCall1_eq, opd_eq]
 ·rename_i hc
  unfold lenOf
  split
  ·rename_i t ts x ht hx
   refine kF1_good P fun T h v hv => ?_
   have hv := lenB_ok P hv
   obtain ⟨cl, as, tys⟩ := c
   have hc : cl = .builtin .len := hc
   subst hc
   have ht : tys.toList = t :: ts := ht
   have hx : as.toList = [x] := hx
   show xBuiltin P .len tys.toList (evs P T as.toList) h = _
   rw [ht, hx]
   exact hv
  ·exact kSlow_good _
 ·exact kSlow_good _
noncomputable def xb1 {α : Type} (f : α → XF) (a : α) : XB := xSlow (f a)
noncomputable def xb2 {α β : Type} (f : α → β → XF) (a : α) (b : β) : XB := xSlow (f a b)
noncomputable def xb3 {α β γ : Type} (f : α → β → γ → XF) (a : α) (b : β) (c : γ) : XB := xSlow (f a b c)
noncomputable def xb4 {α β γ δ : Type} (f : α → β → γ → δ → XF) (a : α) (b : β) (c : γ) (d : δ) : XB := xSlow (f a b c d)
noncomputable def xb5 {α β γ δ ε : Type} (f : α → β → γ → δ → ε → XF) (a : α) (b : β) (c : γ) (d : δ) (e : ε) : XB := xSlow (f a b c d e)
noncomputable def execBP (o : Op) : XB := Op.rec (motive := fun _ => XB)
 (xbMove P) (xbMove P) (xb3 (cPick P)) (xbAlloc P) (xbBox P) (xb2 (cBuild P)) (xb3 (cBuildSlice P)) (xb4 (cMapUpdate P)) (xbLoad P) (xbStore P) (xb1 no1) (xb1 no1) (xbNil P) (xbBin P) (xbUn P) (xb3 (cConvert P)) (xb2 no2)
 (xb2 (cIface P)) (xb3 (cFunc P)) (xb2 (cMakeMap P)) (xb2 no2) (xb3 (cMakeSlice P)) (xb5 (cSlice P)) (xbFieldAddr P) (xb3 (cField P)) (xbIndexAddr P) (xbIndex P) (xb4 (cLookup P)) (xb4 (cMapUpdate P)) (xb3 no3) (xb4 no4)
 (xb2 (cRange P)) (xb2 (cNext P)) (xb1 (cEntry P)) (xb4 (cAssert P)) (xbExtract P) (xbCall P) (xb1 no1) (xb1 (cDefer P)) (xb1 (cPanic P)) (xb2 no2) (xb3 no3) (xb2 no2) o
theorem execBP_good (o : Op) : Good (execBP P o).f (execP P o) := by
 cases o
 case move x => exact xbMove_good P x
 case assign x => exact xbMove_good P x
 case alloc e => exact xbAlloc_good P e
 case box e v => exact xbBox_good P e v
 case load t x => exact xbLoad_good P t x
 case store t a v => exact xbStore_good P t a v
 case nilCheck x => exact xbNil_good P x
 case binOp op t x y u => exact xbBin_good P op t x y u
 case unOp op t x => exact xbUn_good P op t x
 case fieldAddr s x f => exact xbFieldAddr_good P s x f
 case indexAddr t x i => exact xbIndexAddr_good P t x i
 case index t x i => exact xbIndex_good P t x i
 case extract x i => exact xbExtract_good P x i
 case call c => exact xbCall_good P c
 all_goals exact kSlow_good _
noncomputable def slowL (l : Lift) (T : Slots) (h : Heap) (slow : Res → St) (r : Res) : St := slow (relift P l T h r)
noncomputable def liftF (x : XB) (l : Lift) : XK := fun T h next slow => x.f T h next (slowL P l T h slow)
noncomputable def wrapB (x : XB) (l : Option Lift) : XB := Option.rec (motive := fun _ => XB) x (fun l => ⟨liftF P x l⟩) l
noncomputable def execB (o : Op) : XB := wrapB P (execBP P o) (liftOf P o)
theorem execB_good (o : Op) : Good (execB P o).f (execA P o) := by
 intro T h next slow hs
 show (wrapB P (execBP P o) (liftOf P o)).f T h next slow = slow (reliftO P (liftOf P o) T h (execP P o T h))
 cases liftOf P o with
 | none => exact execBP_good P o T h next slow hs
 | some l => exact execBP_good P o T h next (slowL P l T h slow) hs
noncomputable def slowQ (a : Bool) (slow : Res → St) (r : Res) : St := slow (quietR a r)
noncomputable def quietF (x : XB) (a : Bool) : XK := fun T h next slow => x.f T h next (slowQ a slow)
noncomputable def execBD (o : Op) : XB := ⟨quietF (execB P o) (or (acts P o) (makeOp o))⟩
theorem execBD_good (o : Op) : Good (execBD P o).f (execD P o) := fun T h next slow hs => execB_good P o T h next (slowQ _ slow) hs
def keepsT (es : List Nat) : Nat → List Oper → Nat → Bool
 | _, [], _ => true
 | i, o :: r, t => cond (match o.dst with | some d => Nat.beq d t | none => false) (cond (elemN i es) (keepsT es (i + 1) r t) false) (keepsT es (i + 1) r t)
theorem keepsT_spec {es : List Nat} {t : Nat} : ∀ {s : Nat} {ops : List Oper}, keepsT es s ops t = true → ∀ i o, ops[i]? = some o → o.dst = some t → elemN (s + i) es = true
 | s, [], _, i, o, ho, _ => by simp at ho
 | s, p :: ops, h, i, o, ho, hd => by
  unfold keepsT at h
  cases i with
  | zero =>
   simp at ho; subst ho
   rw [hd] at h
   have h : cond (Nat.beq t t) (cond (elemN s es) (keepsT es (s + 1) ops t) false) (keepsT es (s + 1) ops t) = true := h
   rw [Nat.beq_refl] at h
   rw [Nat.add_zero]
   cases he : elemN s es with
   | true => rfl
   | false => rw [he] at h; cases h
  | succ i =>
   have hr : keepsT es (s + 1) ops t = true := by
    generalize (match p.dst with | some d => Nat.beq d t | none => false) = b at h
    cases b with
    | false => exact h
    | true => cases he : elemN s es with
     | true => rw [he] at h; exact h
     | false => rw [he] at h; cases h
   have := keepsT_spec hr i o (by simpa using ho) hd
   rw [show s + (i + 1) = s + 1 + i by omega]; exact this
theorem get_mask {es : List Nat} {all : List Oper} {t : Nat} (h : keepsT (cat es (closers all)) 0 all t = true) (T : Slots) : (maskT es all T).get t = T.get t := by
 obtain ⟨n, r⟩ := T
 exact maskGo_keep (cat es (closers all)) all 0 n t r (fun i o ho hd => keepsT_spec h i o ho hd)
def freeX (es : List Nat) (all : List Oper) (x : Operand) : Bool := match x with
 | .tmp t => keepsT (cat es (closers all)) 0 all t
 | _ => true
def freeXs (es : List Nat) (all : List Oper) : List Operand → Bool
 | [] => true
 | x :: r => cond (freeX es all x) (freeXs es all r) false
def freePs (es : List Nat) (all : List Oper) : List (Nat × Operand) → Bool
 | [] => true
 | x :: r => cond (freeX es all x.2) (freePs es all r) false
def freeM (es : List Nat) (all : List Oper) (x : Option Operand) : Bool := match x with
 | none => true
 | some x => freeX es all x
section
variable {es : List Nat} {all : List Oper} {T : Slots} {hp : Heap}
theorem ev_mask {x : Operand} (h : freeX es all x = true) : ev P (maskT es all T) x = ev P T x := by
 cases x
 case tmp t => exact get_mask h T
 all_goals rfl
theorem evs_mask : ∀ {xs : List Operand}, freeXs es all xs = true → evs P (maskT es all T) xs = evs P T xs
 | [], _ => rfl
 | x :: r, h => by
  unfold freeXs at h
  cases hx : freeX es all x with
  | false => rw [hx] at h; cases h
  | true =>
   rw [hx] at h
   show ev P (maskT es all T) x :: evs P (maskT es all T) r = ev P T x :: evs P T r
   rw [ev_mask P hx, evs_mask h]
theorem evps_mask : ∀ {xs : List (Nat × Operand)}, freePs es all xs = true → evps P (maskT es all T) xs = evps P T xs
 | [], _ => rfl
 | x :: r, h => by
  unfold freePs at h
  cases hx : freeX es all x.2 with
  | false => rw [hx] at h; cases h
  | true =>
   rw [hx] at h
   show (x.1, ev P (maskT es all T) x.2) :: evps P (maskT es all T) r = (x.1, ev P T x.2) :: evps P T r
   rw [ev_mask P hx, evps_mask h]
theorem omap_mask {x : Option Operand} (h : freeM es all x = true) : omap P (maskT es all T) x = omap P T x := by
 cases x with
 | none => rfl
 | some x => show some (ev P (maskT es all T) x) = some (ev P T x); rw [ev_mask P h]
end
def freeC (es : List Nat) (all : List Oper) (c : Call) : Bool := match c.callee with
 | .value f => and (freeX es all f) (freeXs es all c.args.toList)
 | .builtin _ => freeXs es all c.args.toList
 | _ => false
def freeOp (es : List Nat) (all : List Oper) (op : Op) : Bool := match op with
 | .move x => freeX es all x
 | .assign x => freeX es all x
 | .pick c a b => and (freeX es all c) (and (freeX es all a) (freeX es all b))
 | .alloc _ => true
 | .box _ v => freeX es all v
 | .build _ ps => freePs es all ps.toList
 | .buildSlice _ _ ps => freePs es all ps.toList
 | .load _ a => freeX es all a
 | .store _ a v => and (freeX es all a) (freeX es all v)
 | .nilCheck x => freeX es all x
 | .binOp _ _ x y _ => and (freeX es all x) (freeX es all y)
 | .unOp _ _ x => freeX es all x
 | .convert _ _ x => freeX es all x
 | .makeInterface _ x => freeX es all x
 | .makeFunc _ a b => and (freeXs es all a.toList) (freeXs es all b.toList)
 | .makeMap _ r => freeM es all r
 | .makeSlice _ l c => and (freeX es all l) (freeX es all c)
 | .slice _ x lo hi mx => and (freeX es all x) (and (freeM es all lo) (and (freeM es all hi) (freeM es all mx)))
 | .fieldAddr _ x _ => freeX es all x
 | .field _ x _ => freeX es all x
 | .indexAddr _ x i => and (freeX es all x) (freeX es all i)
 | .index _ x i => and (freeX es all x) (freeX es all i)
 | .lookup _ x k _ => and (freeX es all x) (freeX es all k)
 | .mapUpdate _ m k v => and (freeX es all m) (and (freeX es all k) (freeX es all v))
 | .typeAssert x _ _ _ => freeX es all x
 | .extract x _ => freeX es all x
 | .call c => freeC es all c
 | _ => false
theorem execP_mask {es : List Nat} {all : List Oper} {T : Slots} {hp : Heap} {op : Op} (h : freeOp es all op = true) : execP P op (maskT es all T) hp = execP P op T hp := by
 have and3 : ∀ {a b c : Bool}, and a (and b c) = true → a = true ∧ b = true ∧ c = true := fun h => by simpa [Bool.and_eq_true] using h
 have and2 : ∀ {a b : Bool}, and a b = true → a = true ∧ b = true := fun h => by simpa [Bool.and_eq_true] using h
 cases op
 case move x => have h : freeX es all x = true := h; show Res.val (ev P (maskT es all T) x) hp = _; rw [ev_mask P h]; rfl
 case assign x => have h : freeX es all x = true := h; show Res.val (ev P (maskT es all T) x) hp = _; rw [ev_mask P h]; rfl
 case pick c a b => obtain ⟨h1, h2, h3⟩ := and3 (show and (freeX es all c) (and (freeX es all a) (freeX es all b)) = true from h); show xPick (ev P (maskT es all T) c) (ev P (maskT es all T) a) (ev P (maskT es all T) b) hp = _; rw [ev_mask P h1, ev_mask P h2, ev_mask P h3]; rfl
 case alloc e => rfl
 case box e v => have h : freeX es all v = true := h; show xBox e (ev P (maskT es all T) v) hp = _; rw [ev_mask P h]; rfl
 case build t ps => have h : freePs es all ps.toList = true := h; show xBuild P t (evps P (maskT es all T) ps.toList) hp = _; rw [evps_mask P h]; rfl
 case buildSlice t n ps => have h : freePs es all ps.toList = true := h; show xBuildSlice P t n (evps P (maskT es all T) ps.toList) hp = _; rw [evps_mask P h]; rfl
 case load t a => have h : freeX es all a = true := h; show xLoad P t (ev P (maskT es all T) a) hp = _; rw [ev_mask P h]; rfl
 case store t a v => obtain ⟨h1, h2⟩ := and2 (show and (freeX es all a) (freeX es all v) = true from h); show xStore P t (ev P (maskT es all T) a) (ev P (maskT es all T) v) hp = _; rw [ev_mask P h1, ev_mask P h2]; rfl
 case nilCheck x => have h : freeX es all x = true := h; show xNil (ev P (maskT es all T) x) hp = _; rw [ev_mask P h]; rfl
 case binOp o t x y u => obtain ⟨h1, h2⟩ := and2 (show and (freeX es all x) (freeX es all y) = true from h); show xBin P o t (or (isC x) (isC y)) (ev P (maskT es all T) x) (ev P (maskT es all T) y) hp = _; rw [ev_mask P h1, ev_mask P h2]; rfl
 case unOp o t x => have h : freeX es all x = true := h; show xUn P o (ev P (maskT es all T) x) hp = _; rw [ev_mask P h]; rfl
 case convert s d x => have h : freeX es all x = true := h; show xConvert P s d (ev P (maskT es all T) x) hp = _; rw [ev_mask P h]; rfl
 case makeInterface t x => have h : freeX es all x = true := h; show cond (notIface P t) (Res.val (.iface t (ev P (maskT es all T) x)) hp) _ = _; rw [ev_mask P h]; rfl
 case makeFunc f a b => obtain ⟨h1, h2⟩ := and2 (show and (freeXs es all a.toList) (freeXs es all b.toList) = true from h); show xFunc f (evs P (maskT es all T) a.toList) (evs P (maskT es all T) b.toList) hp = _; rw [evs_mask P h1, evs_mask P h2]; rfl
 case makeMap t r => have h : freeM es all r = true := h; show cond (hintOk P t (omap P (maskT es all T) r)) _ _ = _; rw [omap_mask P h]; rfl
 case makeSlice t l c => obtain ⟨h1, h2⟩ := and2 (show and (freeX es all l) (freeX es all c) = true from h); show xMakeSlice P t (ev P (maskT es all T) l) (ev P (maskT es all T) c) hp = _; rw [ev_mask P h1, ev_mask P h2]; rfl
 case slice t x lo hi mx =>
  obtain ⟨h1, h2, h34⟩ := and3 (show and (freeX es all x) (and (freeM es all lo) (and (freeM es all hi) (freeM es all mx))) = true from h)
  obtain ⟨h3, h4⟩ := and2 h34
  show xSlice P t (ev P (maskT es all T) x) (omap P (maskT es all T) lo) (omap P (maskT es all T) hi) (omap P (maskT es all T) mx) hp = _
  rw [ev_mask P h1, omap_mask P h2, omap_mask P h3, omap_mask P h4]; rfl
 case fieldAddr s x f => have h : freeX es all x = true := h; show xFieldAddr P s f (ev P (maskT es all T) x) hp = _; rw [ev_mask P h]; rfl
 case field s x f => have h : freeX es all x = true := h; show xField P s f (ev P (maskT es all T) x) hp = _; rw [ev_mask P h]; rfl
 case indexAddr t x i => obtain ⟨h1, h2⟩ := and2 (show and (freeX es all x) (freeX es all i) = true from h); show xIndexAddr P t (ev P (maskT es all T) x) (ev P (maskT es all T) i) hp = _; rw [ev_mask P h1, ev_mask P h2]; rfl
 case index t x i => obtain ⟨h1, h2⟩ := and2 (show and (freeX es all x) (freeX es all i) = true from h); show xIndexC P t (ev P (maskT es all T) x) (ev P (maskT es all T) i) hp = _; rw [ev_mask P h1, ev_mask P h2]; rfl
 case lookup t x k c => obtain ⟨h1, h2⟩ := and2 (show and (freeX es all x) (freeX es all k) = true from h); show xLookup P t (ev P (maskT es all T) x) (ev P (maskT es all T) k) c hp = _; rw [ev_mask P h1, ev_mask P h2]; rfl
 case mapUpdate t m k v => obtain ⟨h1, h2, h3⟩ := and3 (show and (freeX es all m) (and (freeX es all k) (freeX es all v)) = true from h); show xMapUpdate P t (ev P (maskT es all T) m) (ev P (maskT es all T) k) (ev P (maskT es all T) v) hp = _; rw [ev_mask P h1, ev_mask P h2, ev_mask P h3]; rfl
 case typeAssert x a b c => have h : freeX es all x = true := h; show xAssert P (ev P (maskT es all T) x) b c hp = _; rw [ev_mask P h]; rfl
 case extract x i => have h : freeX es all x = true := h; show xExtract (ev P (maskT es all T) x) i hp = _; rw [ev_mask P h]; rfl
 case call c =>
  obtain ⟨cl, as, ts⟩ := c
  cases cl
  case value f =>
   obtain ⟨h1, h2⟩ := and2 (show and (freeX es all f) (freeXs es all as.toList) = true from h)
   show xCallV (ev P (maskT es all T) f) (evs P (maskT es all T) as.toList) hp = _
   rw [ev_mask P h1, evs_mask P h2]; rfl
  case builtin b =>
   have h : freeXs es all as.toList = true := h
   show xBuiltin P b ts.toList (evs P (maskT es all T) as.toList) hp = _
   rw [evs_mask P h]; rfl
  all_goals cases h
 all_goals cases h
theorem lift_mask {es : List Nat} {all : List Oper} {op : Op} {l : Lift} (hl : liftOf P op = some l) (h : freeOp es all op = true) : freeXs es all l.xs = true := by
 have one : ∀ {x : Operand} {r : List Operand}, freeX es all x = true → freeXs es all r = true → freeXs es all (x :: r) = true := fun hx hr => by
  show cond (freeX es all _) (freeXs es all _) false = true
  rw [hx]; exact hr
 have and2 : ∀ {a b : Bool}, and a b = true → a = true ∧ b = true := fun h => by simpa [Bool.and_eq_true] using h
 have zero : ∀ {x : Option Operand}, freeM es all x = true → freeX es all (oper0 x) = true := fun {x} h => by
  cases x with
  | none => rfl
  | some x => exact h
 cases op with
 | binOp op t x y z => cases hl; obtain ⟨h1, h2⟩ := and2 h; exact one h1 (one h2 rfl)
 | unOp op t x => cases hl; exact one h rfl
 | convert s d x =>
  have hl : cond (isSl P d) none (some (⟨[x], lConv P s d, gConv P s d⟩ : Lift)) = some l := hl
  cases hsl : isSl P d with
  | true => rw [hsl] at hl; cases hl
  | false => rw [hsl] at hl; cases hl; exact one h rfl
 | index t x i => cases hl; obtain ⟨h1, h2⟩ := and2 h; exact one h1 (one h2 rfl)
 | load t x => cases hl; exact one h rfl
 | lookup t x k c => cases hl; obtain ⟨h1, h2⟩ := and2 h; exact one h1 (one h2 rfl)
 | indexAddr t x i => cases hl; obtain ⟨h1, h2⟩ := and2 h; exact one h1 (one h2 rfl)
 | slice t x lo hi mx =>
  cases mx with
  | some _ => cases hl
  | none =>
   cases hl
   obtain ⟨h1, h2⟩ := and2 (show and (freeX es all x) (and (freeM es all lo) (and (freeM es all hi) true)) = true from h)
   obtain ⟨h2, h3⟩ := and2 h2
   obtain ⟨h3, _⟩ := and2 h3
   exact one h1 (one (zero h2) (one (zero h3) rfl))
 | call c =>
  obtain ⟨callee, args, ts⟩ := c
  cases callee with
  | builtin b => cases b <;> first | (cases hl; exact h) | cases hl
  | _ => cases hl
 | _ => cases hl
theorem execA_mask {es : List Nat} {all : List Oper} {T : Slots} {hp : Heap} {op : Op} (h : freeOp es all op = true) : execA P op (maskT es all T) hp = execA P op T hp := by
 show reliftO P (liftOf P op) (maskT es all T) hp (execP P op (maskT es all T) hp) = reliftO P (liftOf P op) T hp (execP P op T hp)
 rw [execP_mask P h]
 cases hl : liftOf P op with
 | none => rfl
 | some l =>
  show relift P l (maskT es all T) hp _ = relift P l T hp _
  unfold relift
  rw [evs_mask P (lift_mask P hl h)]
theorem execD_mask {es : List Nat} {all : List Oper} {T : Slots} {hp : Heap} {op : Op} (h : freeOp es all op = true) : execD P op (maskT es all T) hp = execD P op T hp := by
 unfold execD; rw [execA_mask P h]
def freeG (es : List Nat) (all : List Oper) (g : Option (Nat × Bool)) (d : Option Nat) : Bool := match g, d with
 | none, _ => true
 | some _, none => true
 | some _, some d => keepsT (cat es (closers all)) 0 all d
noncomputable def gDstA (all : List Oper) (g : Option (Nat × Bool)) : Option Nat := Option.rec (motive := fun _ => Option Nat) none (fun g => dstAt all g.1) g
theorem guardA_mask {es : List Nat} {all : List Oper} {T : Slots} {g : Option (Nat × Bool)} (h : freeG es all g (gDstA all g) = true) : guardA g all (maskT es all T) = guardA g all T := by
 cases g with
 | none => rfl
 | some g =>
  have h : freeG es all (some g) (dstAt all g.1) = true := h
  show Option.rec (motive := fun _ => Option Bool) none (fun d => guardV ((maskT es all T).get d) g.2) (dstAt all g.1) = Option.rec (motive := fun _ => Option Bool) none (fun d => guardV (T.get d) g.2) (dstAt all g.1)
  cases hd : dstAt all g.1 with
  | none => rfl
  | some d =>
   rw [hd] at h
   have h : keepsT (cat es (closers all)) 0 all d = true := h
   show guardV ((maskT es all T).get d) g.2 = guardV (T.get d) g.2
   rw [get_mask h]
noncomputable def freeO (all : List Oper) (o : Oper) : Bool := and (freeOp (edgesOf o) all o.op) (freeG (edgesOf o) all o.guard (gDstA all o.guard))
variable [Hook]
inductive CB where | no | b (n : Nat) (c : Code) | m (k : Nat)
def cbK (s : Nat) : CB := match s with
 | n + 3 => .m n
 | _ => .no
noncomputable def cb2 (f : Nat) (c : Code) : CB := forceN (ntmpsOf P f) (fun n => .b n c)
noncomputable def callB (f : Nat) : CB := Nat.rec (motive := fun _ => CB) (Option.rec (motive := fun _ => CB) .no (cb2 P f) (bodyOf P f)) (fun s _ => cbK s) (sumKind f)
noncomputable def lenA (l : List AV) : Nat → Nat := List.rec (motive := fun _ => Nat → Nat) (fun a => a) (fun _ _ ih a => ih (Nat.add a 1)) l
omit [Hook] in
theorem lenA_eq : ∀ (l : List AV) (a : Nat), lenA l a = a + len l
 | [], a => rfl
 | _ :: r, a => by show lenA r (Nat.add a 1) = _; rw [lenA_eq r]; show a + 1 + len r = a + (len r + 1); omega
def enK (f : Nat) (fr : AFrame) (cs : List AFrame) (h : Heap) (n : Nat) (c : Code) (t : ST) : St := .go ⟨n, t⟩ [.code c] (.mk f [] .normal (fr :: cs)) h
noncomputable def enB (f : Nat) (args : List AV) (fr : AFrame) (cs : List AFrame) (h : Heap) (n : Nat) (c : Code) : St := Bool.rec (motive := fun _ => St) (.bad "enter") (setSK args ST.nil 0 (enK f fr cs h n c)) (Nat.ble (lenA args 0) n)
noncomputable def argE2 (y : AV) (x : AV) (l c : Nat) : Bool := SR.rec (motive := fun _ => Bool) (scalEq x y) (fun l' c' => Bool.rec (motive := fun _ => Bool) false (Nat.beq l l') (Nat.beq c c')) y.sr
noncomputable def argE (x y : AV) : Bool := SR.rec (motive := fun _ => Bool) (scalEq x y) (argE2 y x) x.sr
omit [Hook] in
theorem argE_eq (x y : AV) : argE x y = scalEq x y := by
 unfold argE
 cases hx : x.sr with
 | no => rfl
 | s l c =>
  show argE2 y x l c = _
  unfold argE2
  cases hy : y.sr with
  | no => rfl
  | s l' c' =>
   rw [AV.sr_is hx, AV.sr_is hy]
   show Bool.rec (motive := fun _ => Bool) false (Nat.beq l l') (Nat.beq c c') = and (Nat.beq l l') (Nat.beq c c')
   cases Nat.beq c c' <;> cases Nat.beq l l' <;> rfl
noncomputable def argsE2 (a : AV) (ih : List AV → Bool) (b : AV) (y : List AV) (_ : Bool) : Bool := Bool.rec (motive := fun _ => Bool) false (ih y) (argE a b)
noncomputable def argsE1 (a : AV) (_ : List AV) (ih : List AV → Bool) (y : List AV) : Bool := List.rec (motive := fun _ => Bool) false (argsE2 a ih) y
noncomputable def argsE (x : List AV) : List AV → Bool := List.rec (motive := fun _ => List AV → Bool) (fun y => List.rec (motive := fun _ => Bool) true (fun _ _ _ => false) y) argsE1 x
omit [Hook] in
theorem argsE_eq : ∀ (x y : List AV), argsE x y = argsEq x y
 | [], [] => rfl
 | [], _ :: _ => rfl
 | _ :: _, [] => rfl
 | a :: x, b :: y => by
  show Bool.rec (motive := fun _ => Bool) false (argsE x y) (argE a b) = cond (scalEq a b) (argsEq x y) false
  rw [argE_eq, argsE_eq x y]
  cases scalEq a b <;> rfl
noncomputable def find1 (args : List AV) (p : Row) (_ : List Row) (ih : Option Row) : Option Row := Bool.rec (motive := fun _ => Option Row) ih (some p) (argsE p.args args)
noncomputable def findF (args : List AV) (t : List Row) : Option Row := List.rec (motive := fun _ => Option Row) none (find1 args) t
omit [Hook] in
theorem findF_eq (args : List AV) : ∀ t : List Row, findF args t = memoFind args t
 | [] => rfl
 | p :: r => by
  show Bool.rec (motive := fun _ => Option Row) (findF args r) (some p) (argsE p.args args) = cond (argsEq p.args args) (some p) (memoFind args r)
  rw [argsE_eq, findF_eq args r]
  cases argsEq p.args args <;> rfl
noncomputable def hps2 (ih : Heap → (Heap → St) → St) (k : Heap → St) (h : Heap) : St := ih h k
noncomputable def hps1 (p : Key × AObj) (_ : List (Key × AObj)) (ih : Heap → (Heap → St) → St) (h : Heap) (k : Heap → St) : St := hput h p.1 p.2 (hps2 ih k)
noncomputable def hputs (objs : List (Key × AObj)) : Heap → (Heap → St) → St := List.rec (motive := fun _ => Heap → (Heap → St) → St) (fun h k => k h) hps1 objs
omit [Hook] in
theorem hputs_eq : ∀ (objs : List (Key × AObj)) (h : Heap) (k : Heap → St), hputs objs h k = k (putObjs objs h)
 | [], h, k => rfl
 | p :: r, h, k => by
  show hput h p.1 p.2 (hps2 (hputs r) k) = _
  rw [hput_eq]
  exact hputs_eq r (h.put p.1 p.2) k
noncomputable def enM2 (fr : AFrame) (v : AV) (cs : List AFrame) (h : Heap) : St := finish fr v cs h
noncomputable def enM1 (w : St) (fr : AFrame) (cs : List AFrame) (h : Heap) (r : Row) : St := Bool.rec (motive := fun _ => St) w (hputs r.objs h (enM2 fr r.val cs)) (freeAll h r.objs)
noncomputable def enM (f : Nat) (args : List AV) (fr : AFrame) (cs : List AFrame) (h : Heap) (k : Nat) : St := Option.rec (motive := fun _ => St) (enterOr P f args fr cs h) (enM1 (enterOr P f args fr cs h) fr cs h) (findF args (Hook.tab k args))
noncomputable def enF (f : Nat) (args : List AV) (fr : AFrame) (cs : List AFrame) (h : Heap) : St := CB.rec (motive := fun _ => St) (enterOr P f args fr cs h) (enB f args fr cs h) (enM P f args fr cs h) (callB P f)
theorem enF_eq (f : Nat) (args : List AV) (fr : AFrame) (cs : List AFrame) (h : Heap) : enF P f args fr cs h = enterOr P f args fr cs h := by
 unfold enF
 cases hc : callB P f with
 | no => rfl
 | m k =>
  unfold callB at hc
  show enM P f args fr cs h k = _
  cases hk : sumKind f with
  | zero =>
   rw [hk] at hc
   have hc : Option.rec (motive := fun _ => CB) .no (cb2 P f) (bodyOf P f) = CB.m k := hc
   cases hb : bodyOf P f with
   | none => rw [hb] at hc; exact nomatch (show CB.no = CB.m k from hc)
   | some c' =>
    rw [hb] at hc
    have hc : forceN (ntmpsOf P f) (fun n => CB.b n c') = CB.m k := hc
    rw [forceN_eqF] at hc
    cases hc
  | succ s =>
   rw [hk] at hc
   have hc : cbK s = CB.m k := hc
   match s, hc with
   | 0, hc => cases hc
   | 1, hc => cases hc
   | 2, hc => cases hc
   | n + 3, hc =>
    have hc : CB.m n = CB.m k := hc
    injection hc with hc
    subst hc
    unfold enM
    rw [findF_eq]
    cases hf : memoFind args (Hook.tab n args) with
    | none => rfl
    | some r =>
     show enM1 (enterOr P f args fr cs h) fr cs h r = _
     unfold enM1
     cases hfr : freeAll h r.objs with
     | false => rfl
     | true =>
      show hputs r.objs h (enM2 fr r.val cs) = _
      rw [hputs_eq]
      unfold enterOr
      rw [hk]
      show enM2 fr r.val cs (putObjs r.objs h) = enterSum P f args fr cs h (orPrim (memoA (Hook.tab n args) args h) (Hook.prim n args h))
      unfold memoA
      rw [hf]
      show enM2 fr r.val cs (putObjs r.objs h) = enterSum P f args fr cs h (orPrim (cond (freeAll h r.objs) (some (r.val, putObjs r.objs h)) none) (Hook.prim n args h))
      rw [hfr]; rfl
 | b n c =>
  unfold callB at hc
  show enB f args fr cs h n c = _
  unfold enterOr
  cases hk : sumKind f with
  | succ s =>
   rw [hk] at hc
   have hc : cbK s = CB.b n c := hc
   match s, hc with
   | 0, hc => cases hc
   | 1, hc => cases hc
   | 2, hc => cases hc
   | n + 3, hc => cases hc
  | zero =>
   rw [hk] at hc
   have hc : Option.rec (motive := fun _ => CB) .no (cb2 P f) (bodyOf P f) = CB.b n c := hc
   show enB f args fr cs h n c = Option.rec (motive := fun _ => St) (doExtern P f args fr cs h) (enter P f args .normal (fr :: cs) h) (bodyOf P f)
   cases hb : bodyOf P f with
   | none => rw [hb] at hc; exact nomatch (show CB.no = CB.b n c from hc)
   | some c' =>
    rw [hb] at hc
    have hc : forceN (ntmpsOf P f) (fun n => CB.b n c') = CB.b n c := hc
    rw [forceN_eqF] at hc
    injection hc with h1 h2
    subst h1; subst h2
    show enB f args fr cs h (ntmpsOf P f) c' = cond (Nat.ble (len args) (ntmpsOf P f)) (.go (.mk (ntmpsOf P f) (setSlots args .nil 0)) [.code c'] (.mk f [] .normal (fr :: cs)) h) (.bad "enter")
    unfold enB
    rw [setSK_eq, lenA_eq, Nat.zero_add]
    cases Nat.ble (len args) (ntmpsOf P f) <;> rfl
noncomputable def uE1 (T : Slots) (k : List AItem) (f : Nat) (args : List AV) (h : Heap) (fn : Nat) (ds : List ADef) (fk : FK) (cs : List AFrame) : St := enF P f args (.mk fn T k ds .run fk) cs h
noncomputable def uE (T : Slots) (k : List AItem) (c : Ctx) (f : Nat) (args : List AV) (h : Heap) : St := Ctx.rec (motive := fun _ => St) (uE1 P T k f args h) c
theorem uE_eq (T : Slots) (k : List AItem) (c : Ctx) (f : Nat) (args : List AV) (h : Heap) : uE P T k c f args h = uEnter P f args h T k c := by
 obtain ⟨fn, ds, fk, cs⟩ := c
 exact enF_eq P f args (.mk fn T k ds .run fk) cs h
noncomputable def uR (T : Slots) (k : List AItem) (c : Ctx) (l : Key) (args : List AV) (h : Heap) : St := uRound P l args h T k c
noncomputable def uD (T : Slots) (k : List AItem) (c : Ctx) (d : ADef) (h : Heap) : St := uDefer d h T k c
noncomputable def uV (T : Slots) (k : List AItem) (c : Ctx) (h : Heap) : St := uRecover h T k c
noncomputable def uP (T : Slots) (k : List AItem) (c : Ctx) (v : AV) (h : Heap) : St := uPan v h T k c
def uA (T : Slots) (k : List AItem) (c : Ctx) (l : List (AV × Heap)) : St := .alt l T k c
noncomputable def uponF (r : Res) (T : Slots) (k : List AItem) (c : Ctx) (next : AV → Heap → St) : St :=
 Res.rec (motive := fun _ => St) next (uE P T k c) (uR P T k c) (uD T k c) (uV T k c) (uP T k c) (uA T k c) St.bad r
theorem uponF_eq (r : Res) (T : Slots) (k : List AItem) (c : Ctx) (next : AV → Heap → St) : uponF P r T k c next = upon P r T k c next := by
 cases r
 case enter f args h => exact uE_eq P T k c f args h
 all_goals rfl
structure RB where
 f : List AItem → Ctx → Slots → Heap → St
def nilR (k : List AItem) (c : Ctx) (T : Slots) (h : Heap) : St := .go T k c h
def badR (w : String) (_ : List AItem) (_ : Ctx) (_ : Slots) (_ : Heap) : St := .bad w
def kR' (ih : RB) (k : List AItem) (c : Ctx) (T : Slots) (h : Heap) : St := ih.f k c T h
def kN' (ih : RB) (k : List AItem) (c : Ctx) (h : Heap) (n : Nat) (t : ST) : St := ih.f k c ⟨n, t⟩ h
noncomputable def pN (ih : RB) (k : List AItem) (c : Ctx) (h : Heap) (d : Nat) (v : AV) (n : Nat) (t : ST) : St := Bool.rec (motive := fun _ => St) (.bad "slot") ((pb d).f v t (kN' ih k c h n)) (Nat.blt d n)
noncomputable def nextF (ih : RB) (k : List AItem) (c : Ctx) (T : Slots) (d : Nat) (v : AV) (h : Heap) : St := Slots.rec (motive := fun _ => St) (pN ih k c h d v) T
omit [Hook] in
theorem nextF_eq (ih : RB) (k : List AItem) (c : Ctx) (T : Slots) (d : Nat) (v : AV) (h : Heap) : nextF ih k c T d v h = putK T (some d) v (fun T => ih.f k c T h) := by
 obtain ⟨n, t⟩ := T
 show Bool.rec (motive := fun _ => St) (.bad "slot") ((pb d).f v t (kN' ih k c h n)) (Nat.blt d n) = cond (Nat.blt d n) (ih.f k c ⟨n, t.set v (keyOf d)⟩ h) (.bad "slot")
 rw [pb_eq]
 cases Nat.blt d n <;> rfl
noncomputable def slowF (it : AItem) (ih : RB) (k : List AItem) (c : Ctx) (T : Slots) (d : Nat) (r : Res) : St := uponF P r T (it :: k) c (nextF ih k c T d)
noncomputable def plainF (it : AItem) (ih : RB) (d : Nat) (x : XB) (k : List AItem) (c : Ctx) (T : Slots) (h : Heap) : St := x.f T h (nextF ih k c T d) (slowF P it ih k c T d)
def next0 (ih : RB) (k : List AItem) (c : Ctx) (T : Slots) (_ : AV) (h : Heap) : St := ih.f k c T h
noncomputable def slow0 (it : AItem) (ih : RB) (k : List AItem) (c : Ctx) (T : Slots) (r : Res) : St := uponF P r T (it :: k) c (next0 ih k c T)
noncomputable def plain0 (it : AItem) (ih : RB) (x : XB) (k : List AItem) (c : Ctx) (T : Slots) (h : Heap) : St := x.f T h (next0 ih k c T) (slow0 P it ih k c T)
noncomputable def conD (it : AItem) (x : XB) (ih : RB) (d : Nat) : RB := ⟨plainF P it ih d x⟩
noncomputable def conP (it : AItem) (x : XB) (ih : RB) (d : Option Nat) : RB := Option.rec (motive := fun _ => RB) ⟨plain0 P it ih x⟩ (conD P it x ih) d
noncomputable def skD (ih : RB) (d : Nat) : RB := ⟨fun k c T h => nextF ih k c T d .undef h⟩
noncomputable def skR (ih : RB) (d : Option Nat) : RB := Option.rec (motive := fun _ => RB) ih (skD ih) d
noncomputable def gdB (x y : RB) (k : List AItem) (c : Ctx) (T : Slots) (h : Heap) (b : Bool) : St := (Bool.rec (motive := fun _ => RB) x y b).f k c T h
noncomputable def gdF (all : List Oper) (g : Option (Nat × Bool)) (x y : RB) (k : List AItem) (c : Ctx) (T : Slots) (h : Heap) : St := Option.rec (motive := fun _ => St) (.bad "guard") (gdB x y k c T h) (guardA g all T)
noncomputable def conI (all : List Oper) (it : AItem) (o : Oper) (x : XB) (ih : RB) : RB := Option.rec (motive := fun _ => RB) (conP P it x ih o.dst) (fun _ => ⟨gdF all o.guard (skR ih o.dst) (conP P it x ih o.dst)⟩) o.guard
theorem conP_eq (it : AItem) {x : XB} {g : XF} (hx : Good x.f g) (ih : RB) (d : Option Nat) (k : List AItem) (c : Ctx) (T : Slots) (h : Heap) : (conP P it x ih d).f k c T h = upon P (g T h) T (it :: k) c (fun v h => putK T d v (fun T => ih.f k c T h)) := by
 unfold conP
 cases d with
 | none =>
  show plain0 P it ih x k c T h = _
  unfold plain0
  rw [hx T h (next0 ih k c T) (slow0 P it ih k c T) (fun v h => rfl)]
  unfold slow0
  rw [uponF_eq]
  rfl
 | some d =>
  show plainF P it ih d x k c T h = _
  unfold plainF
  have hn : nextF ih k c T d = (fun v h => putK T (some d) v (fun T => ih.f k c T h)) := by funext v h; exact nextF_eq ih k c T d v h
  rw [hx T h (nextF ih k c T d) (slowF P it ih k c T d) (fun v h => rfl)]
  unfold slowF
  rw [uponF_eq, hn]
omit [Hook] in
theorem skR_eq (ih : RB) (d : Option Nat) (k : List AItem) (c : Ctx) (T : Slots) (h : Heap) : (skR ih d).f k c T h = putK T d .undef (fun T => ih.f k c T h) := by
 cases d with
 | none => rfl
 | some d => exact nextF_eq ih k c T d .undef h
theorem conI_eq (all : List Oper) (it : AItem) (o : Oper) {x : XB} {g : XF} (hx : Good x.f g) (ih : RB) (k : List AItem) (c : Ctx) (T : Slots) (h : Heap) : (conI P all it o x ih).f k c T h = Option.rec (motive := fun _ => St) (.bad "guard") (fun b => Bool.rec (motive := fun _ => St) (putK T o.dst .undef (fun T => kR' ih k c T h)) (upon P (g T h) T (it :: k) c (fun v h => putK T o.dst v (fun T => kR' ih k c T h))) b) (guardA o.guard all T) := by
 unfold conI
 cases hg : o.guard with
 | none => exact conP_eq P it hx ih o.dst k c T h
 | some gd =>
  show Option.rec (motive := fun _ => St) (.bad "guard") (gdB (skR ih o.dst) (conP P it x ih o.dst) k c T h) (guardA (some gd) all T) = _
  cases guardA (some gd) all T with
  | none => rfl
  | some b => cases b with
   | false => exact skR_eq ih o.dst k c T h
   | true => exact conP_eq P it hx ih o.dst k c T h
noncomputable def conB (all : List Oper) (o : Oper) (rest : List Oper) (ih : RB) : RB := conI P all (.ops all (o :: rest)) o (execB P o.op) ih
noncomputable def regB (all rest : List Oper) : RB := List.rec (motive := fun _ => RB) ⟨nilR⟩ (conB P all) rest
theorem regB_eq (all : List Oper) (k : List AItem) (c : Ctx) : ∀ (rest : List Oper) (T : Slots) (h : Heap), (regB P all rest).f k c T h = stepOps P all k c rest T h
 | [], T, h => rfl
 | o :: rest, T, h => by
  have ih := regB_eq all k c rest
  have hk : kR' (regB P all rest) k c = stepOps P all k c rest := by funext T h; exact ih T h
  show (conI P all (.ops all (o :: rest)) o (execB P o.op) (regB P all rest)).f k c T h = oneOp P o (.ops all (o :: rest)) k c T T h (stepOps P all k c rest) (guardA o.guard all T)
  rw [conI_eq P all _ o (execB_good P o.op), hk]
  rfl
noncomputable def quickI (k : IntKind) (a : Int) (k' : IntKind) (b : Int) : Bool := Bool.rec (motive := fun _ => Bool) false (eqI a b) (Nat.beq (kNo k) (kNo k'))
noncomputable def quick1 (y : AV) (k : IntKind) (a : Int) : Bool := IR.rec (motive := fun _ => Bool) false (quickI k a) y.ir
noncomputable def quick (x y : AV) : Bool := IR.rec (motive := fun _ => Bool) false (quick1 y) x.ir
omit [Hook] in
theorem quick_ok {x y : AV} (h : quick x y = true) : beqA 60 x y = true := by
 unfold quick at h
 cases hx : x.ir with
 | no => rw [hx] at h; cases h
 | i k a =>
  rw [hx] at h
  have h : IR.rec (motive := fun _ => Bool) false (quickI k a) y.ir = true := h
  cases hy : y.ir with
  | no => rw [hy] at h; cases h
  | i k' b =>
   rw [hy] at h
   have h : Bool.rec (motive := fun _ => Bool) false (eqI a b) (Nat.beq (kNo k) (kNo k')) = true := h
   rw [AV.ir_is hx, AV.ir_is hy]
   show and (Nat.beq (kindNo k) (kindNo k')) (intEq a b) = true
   rw [kNo_eq, kNo_eq, eqI_eq] at h
   cases hb : Nat.beq (kindNo k) (kindNo k') with
   | false => rw [hb] at h; cases h
   | true => rw [hb] at h; exact h
noncomputable def beqF (x y : AV) : Bool := Bool.rec (motive := fun _ => Bool) (beqA 60 x y) true (quick x y)
omit [Hook] in
theorem beqF_eq (x y : AV) : beqF x y = beqA 60 x y := by
 unfold beqF
 cases hq : quick x y with
 | false => rfl
 | true => exact (quick_ok hq).symm
noncomputable def chB (ih : RB) (k : List AItem) (c : Ctx) (T : Slots) (h : Heap) (b : Bool) : St := Bool.rec (motive := fun _ => St) (.bad "an order that matters") (ih.f k c T h) b
noncomputable def chN (ih : RB) (k : List AItem) (c : Ctx) (T : Slots) (h : Heap) (d : Nat) (v : AV) (_ : Heap) : St := chB ih k c T h (beqF v (T.get d))
noncomputable def chS (ih : RB) (k : List AItem) (c : Ctx) (T : Slots) (h : Heap) (d : Nat) (r : Res) : St := chB ih k c T h (same r (T.get d))
noncomputable def chF (o : Oper) (ih : RB) (d : Nat) (k : List AItem) (c : Ctx) (T : Slots) (h : Heap) : St := (execBD P o.op).f T h (chN ih k c T h d) (chS ih k c T h d)
noncomputable def chO (all : List Oper) (ih : RB) (o : Oper) (k : List AItem) (c : Ctx) (T : Slots) (h : Heap) : St := cond (chkO P o all T h) (ih.f k c T h) (.bad "an order that matters")
noncomputable def ch2 (all : List Oper) (ih : RB) (o : Oper) (d : Option Nat) : RB := Option.rec (motive := fun _ => RB) ⟨chO P all ih o⟩ (fun d => ⟨chF P o ih d⟩) d
noncomputable def ch1 (all : List Oper) (ih : RB) (o : Oper) (g : Option (Nat × Bool)) : RB := Option.rec (motive := fun _ => RB) (ch2 P all ih o o.dst) (fun _ => ⟨chO P all ih o⟩) g
noncomputable def ch0 (all : List Oper) (ih : RB) (o : Oper) : RB := Bool.rec (motive := fun _ => RB) ⟨chO P all ih o⟩ (ch1 P all ih o o.guard) (freeO all o)
omit [Hook] in
theorem ch0_eq (all : List Oper) (ih : RB) (o : Oper) (k : List AItem) (c : Ctx) (T : Slots) (h : Heap) : (ch0 P all ih o).f k c T h = chO P all ih o k c T h := by
 unfold ch0
 cases hf : freeO all o with
 | false => rfl
 | true =>
  show (ch1 P all ih o o.guard).f k c T h = _
  unfold ch1
  cases hg : o.guard with
  | some g => rfl
  | none =>
   show (ch2 P all ih o o.dst).f k c T h = _
   unfold ch2
   cases hd : o.dst with
   | none => rfl
   | some d =>
    show (execBD P o.op).f T h (chN ih k c T h d) (chS ih k c T h d) = _
    have hs : ∀ v h', chS ih k c T h d (Res.val v h') = chN ih k c T h d v h' := fun v h' => by
     show chB ih k c T h (beqA 60 v (T.get d)) = chB ih k c T h (beqF v (T.get d))
     rw [beqF_eq]
    rw [execBD_good P o.op T h _ _ hs]
    unfold freeO at hf
    simp only [Bool.and_eq_true] at hf
    have e : chkO P o all T h = same (execD P o.op T h) (T.get d) := by
     unfold chkO
     rw [hd, hg]
     show same (execD P o.op (maskT (edgesOf o) all T) h) (T.get d) = _
     rw [execD_mask P hf.1]
    unfold chO
    rw [e]
    show chB ih k c T h (same (execD P o.op T h) (T.get d)) = _
    unfold chB
    cases same (execD P o.op T h) (T.get d) <;> rfl
noncomputable def opMF (all : List Oper) (rest : List PStep) (i : Nat) (ih : RB) (o : Oper) (k : List AItem) (c : Ctx) (T : Slots) (h : Heap) : St := opM P o (.dops all (.op i :: rest)) all k c T h (kR' ih k c) (maskT (edgesOf o) all T)
noncomputable def op0 (all : List Oper) (rest : List PStep) (i : Nat) (ih : RB) (o : Oper) : RB := Bool.rec (motive := fun _ => RB) ⟨opMF P all rest i ih o⟩ (conI P all (.dops all (.op i :: rest)) o (execBD P o.op) ih) (freeO all o)
theorem op0_eq (all : List Oper) (rest : List PStep) (i : Nat) (ih : RB) (o : Oper) (k : List AItem) (c : Ctx) (T : Slots) (h : Heap) : (op0 P all rest i ih o).f k c T h = opM P o (.dops all (.op i :: rest)) all k c T h (kR' ih k c) (maskT (edgesOf o) all T) := by
 unfold op0
 cases hf : freeO all o with
 | false => rfl
 | true =>
  show (conI P all (.dops all (.op i :: rest)) o (execBD P o.op) ih).f k c T h = oneOpD P o (.dops all (.op i :: rest)) k c (maskT (edgesOf o) all T) T h (kR' ih k c) (guardA o.guard all (maskT (edgesOf o) all T))
  unfold freeO at hf
  simp only [Bool.and_eq_true] at hf
  rw [conI_eq P all _ o (execBD_good P o.op), guardA_mask hf.2]
  unfold oneOpD
  rw [execD_mask P hf.1]
noncomputable def opB (all : List Oper) (rest : List PStep) (ih : RB) (i : Nat) : RB := Option.rec (motive := fun _ => RB) ⟨badR "plan"⟩ (op0 P all rest i ih) (operAt all i)
noncomputable def chkB (all : List Oper) (ih : RB) (i : Nat) : RB := Option.rec (motive := fun _ => RB) ⟨badR "plan"⟩ (ch0 P all ih) (operAt all i)
noncomputable def plS (all : List Oper) (s : PStep) (rest : List PStep) (ih : RB) : RB := PStep.rec (motive := fun _ => RB) (opB P all rest ih) (chkB P all ih) s
noncomputable def planB (all : List Oper) (plan : List PStep) : RB := List.rec (motive := fun _ => RB) ⟨nilR⟩ (plS P all) plan
theorem planB_eq (all : List Oper) (k : List AItem) (c : Ctx) : ∀ (plan : List PStep) (T : Slots) (h : Heap), (planB P all plan).f k c T h = stepPlan P all k c plan T h
 | [], T, h => rfl
 | s :: rest, T, h => by
  have ih := planB_eq all k c rest
  have hk : kR' (planB P all rest) k c = stepPlan P all k c rest := by funext T h; exact ih T h
  cases s with
  | op i =>
   show (opB P all rest (planB P all rest) i).f k c T h = opD P i rest all k c T h (stepPlan P all k c rest)
   unfold opB opD
   cases operAt all i with
   | none => rfl
   | some o => show (op0 P all rest i (planB P all rest) o).f k c T h = _; rw [op0_eq, hk]
  | chk i =>
   show (chkB P all (planB P all rest) i).f k c T h = chkD P i all T h (stepPlan P all k c rest)
   unfold chkB chkD
   cases operAt all i with
   | none => rfl
   | some o => show (ch0 P all (planB P all rest) o).f k c T h = cond (chkO P o all T h) (stepPlan P all k c rest T h) _; rw [ch0_eq, ← ih]; rfl
structure SB where
 f : SF
noncomputable def bSkip : SB := ⟨sSkip⟩
noncomputable def rgF (all : List Oper) : SF := fun T k c h => (regB P all all).f k c T h
noncomputable def plF (all : List Oper) (p : List PStep) : SF := fun T k c h => (planB P all p).f k c T h
def noPl : SF := fun _ _ _ _ => .bad "no plan"
noncomputable def plB (all : List Oper) (p : List PStep) : SB := ⟨plF P all p⟩
noncomputable def bPlan (all : List Oper) : SB := Option.rec (motive := fun _ => SB) ⟨noPl⟩ (plB P all) (planOf P all)
noncomputable def bRegion (_ : Nat) (ops : Array Oper) (draw : Bool) : SB := Bool.rec (motive := fun _ => SB) ⟨rgF P ops.toList⟩ (bPlan P ops.toList) draw
def sqF (b : Code) (a : SB) : SF := fun T k c h => a.f T (.code b :: k) c h
def bSeq (_ b : Code) (a _ : SB) : SB := ⟨sqF b a⟩
noncomputable def cdB (a b : SB) (T : Slots) (k : List AItem) (c : Ctx) (h : Heap) (t : Bool) : St := (Bool.rec (motive := fun _ => SB) b a t).f T k c h
noncomputable def cdF (g : Slots → AV) (a b : SB) : SF := fun T k c h => BR.rec (motive := fun _ => St) (.bad "cond") (cdB a b T k c h) (g T).br
noncomputable def bCond (x : Operand) (_ _ : Code) (a b : SB) : SB := ⟨cdF (opd P x).g a b⟩
def blF (id : Nat) (b : SB) : SF := fun T k c h => b.f T (.inBlock id :: k) c h
def bBlock (id : Nat) (_ : Code) (b : SB) : SB := ⟨blF id b⟩
noncomputable def bLoop (b : Code) (_ : SB) : SB := ⟨sLoop b sSkip⟩
noncomputable def bScope (b : Code) (_ : SB) : SB := ⟨sScope b sSkip⟩
noncomputable def bRange (f : Operand) (ps : Array Nat) (a b : Code) (_ _ : SB) : SB := ⟨sRange P f ps a b sSkip sSkip⟩
noncomputable def bExit (id : Nat) : SB := ⟨sExit id⟩
noncomputable def bLabel (_ : Nat) : SB := ⟨sSkip⟩
noncomputable def bGoto (l : Nat) : SB := ⟨sGoto l⟩
noncomputable def bRet : SB := ⟨sRet⟩
noncomputable def bRefuse (w : String) : SB := ⟨sRefuse w⟩
noncomputable def codeB (c : Code) : SB := Code.rec (motive := fun _ => SB) bSkip (bRegion P) bSeq (bCond P) bBlock bLoop (bRange P) bExit bScope bLabel bGoto bRet bRefuse c
theorem codeB_eq (c : Code) : (codeB P c).f = stepCode P c := by
 induction c with
 | region id ops draw =>
  cases draw with
  | true =>
   funext T k c h
   show (bPlan P ops.toList).f T k c h = goPlan P (planOf P ops.toList) ops.toList T k c h
   unfold bPlan goPlan
   cases planOf P ops.toList with
   | none => rfl
   | some p => exact planB_eq P ops.toList k c p T h
  | false => funext T k c h; exact regB_eq P ops.toList k c ops.toList T h
 | seq a b iha ihb => funext T k c h; exact congrFun (congrFun (congrFun (congrFun iha T) (.code b :: k)) c) h
 | cond x a b iha ihb =>
  funext T k c h
  show BR.rec (motive := fun _ => St) (.bad "cond") (cdB (codeB P a) (codeB P b) T k c h) ((opd P x).g T).br = (match ev P T x with
   | .bool t => Bool.rec (motive := fun _ => St) (stepCode P b T k c h) (stepCode P a T k c h) t
   | _ => .bad "cond")
  rw [opd_eq]
  generalize ev P T x = v
  cases v
  case bool t =>
   cases t with
   | true => exact congrFun (congrFun (congrFun (congrFun iha T) k) c) h
   | false => exact congrFun (congrFun (congrFun (congrFun ihb T) k) c) h
  all_goals rfl
 | block id b ih => funext T k c h; exact congrFun (congrFun (congrFun (congrFun ih T) (.inBlock id :: k)) c) h
 | _ => rfl
noncomputable def cdI (c : Code) : SF := (codeB P c).f
noncomputable def opI (all rest : List Oper) : SF := fun T k c h => (regB P all rest).f k c T h
noncomputable def dpI (all : List Oper) (plan : List PStep) : SF := fun T k c h => (planB P all plan).f k c T h
noncomputable def stepItF (it : AItem) : SF := AItem.rec (motive := fun _ => SF) (cdI P) iBlock iLoop iScope (opI P) (dpI P) iRange endR beginR it
theorem stepItF_eq (it : AItem) : stepItF P it = stepItem P it := by
 cases it with
 | code c => exact codeB_eq P c
 | ops all rest => funext T k c h; exact regB_eq P all k c rest T h
 | dops all plan => funext T k c h; exact planB_eq P all k c plan T h
 | _ => rfl
noncomputable def goC (T : Slots) (c : Ctx) (h : Heap) (it : AItem) (k : List AItem) (_ : St) : St := stepItF P it T k c h
noncomputable def stepGoF (T : Slots) (k : List AItem) (c : Ctx) (h : Heap) : St := List.rec (motive := fun _ => St) (leave T c h) (goC P T c h) k
theorem stepGoF_eq (T : Slots) (k : List AItem) (c : Ctx) (h : Heap) : stepGoF P T k c h = stepGo P T k c h := by
 cases k with
 | nil => rfl
 | cons it k => show stepItF P it T k c h = _; rw [stepItF_eq]; rfl
inductive IV where | no | o (all rest : List Oper) | d (all : List Oper) (plan : List PStep)
noncomputable def ivOf (it : AItem) : IV := AItem.rec (motive := fun _ => IV) (fun _ => .no) (fun _ => .no) (fun _ => .no) (fun _ => .no) (fun a r => .o a r) (fun a p => .d a p) (fun _ => .no) (fun _ => .no) .no it
noncomputable def psI (s : PStep) : Option Nat := PStep.rec (motive := fun _ => Option Nat) (fun i => some i) (fun _ => none) s
def fgo (it : AItem) (k : List AItem) (c : Ctx) (h : Heap) (n : Nat) (t : ST) : St := .go ⟨n, t⟩ (it :: k) c h
noncomputable def fput (it : AItem) (k : List AItem) (c : Ctx) (h : Heap) (v : AV) (d : Nat) (n : Nat) (t : ST) : St := Bool.rec (motive := fun _ => St) (.bad "slot") ((pb d).f v t (fgo it k c h n)) (Nat.blt d n)
noncomputable def fputD (it : AItem) (k : List AItem) (c : Ctx) (h : Heap) (v : AV) (T : Slots) (d : Nat) : St := Slots.rec (motive := fun _ => St) (fput it k c h v d) T
noncomputable def fputK (it : AItem) (k : List AItem) (c : Ctx) (h : Heap) (v : AV) (T : Slots) (d : Option Nat) : St := Option.rec (motive := fun _ => St) (.go T (it :: k) c h) (fputD it k c h v T) d
omit [Hook] in
theorem fputK_eq (it : AItem) (k : List AItem) (c : Ctx) (h : Heap) (v : AV) (T : Slots) (d : Option Nat) : fputK it k c h v T d = putK T d v (fun T => .go T (it :: k) c h) := by
 cases d with
 | none => rfl
 | some d =>
  obtain ⟨n, t⟩ := T
  show Bool.rec (motive := fun _ => St) (.bad "slot") ((pb d).f v t (fgo it k c h n)) (Nat.blt d n) = cond (Nat.blt d n) (.go ⟨n, t.set v (keyOf d)⟩ (it :: k) c h) (.bad "slot")
  rw [pb_eq]
  cases Nat.blt d n <;> rfl
noncomputable def finO1 (v : AV) (h : Heap) (T : Slots) (k : List AItem) (c : Ctx) (all : List Oper) (o : Oper) (rest : List Oper) (_ : St) : St := fputK (.ops all rest) k c h v T o.dst
noncomputable def finO (v : AV) (h : Heap) (T : Slots) (k : List AItem) (c : Ctx) (w : St) (all rest : List Oper) : St := List.rec (motive := fun _ => St) w (finO1 v h T k c all) rest
noncomputable def finD2 (v : AV) (h : Heap) (T : Slots) (k : List AItem) (c : Ctx) (all : List Oper) (plan : List PStep) (i : Nat) : St := fputK (.dops all plan) k c h v T (dstAt all i)
noncomputable def finD1 (v : AV) (h : Heap) (T : Slots) (k : List AItem) (c : Ctx) (w : St) (all : List Oper) (s : PStep) (plan : List PStep) (_ : St) : St := Option.rec (motive := fun _ => St) w (finD2 v h T k c all plan) (psI s)
noncomputable def finD (v : AV) (h : Heap) (T : Slots) (k : List AItem) (c : Ctx) (w : St) (all : List Oper) (plan : List PStep) : St := List.rec (motive := fun _ => St) w (finD1 v h T k c w all) plan
noncomputable def fin3 (v : AV) (h : Heap) (T : Slots) (k : List AItem) (c : Ctx) (w : St) (x : IV) : St := IV.rec (motive := fun _ => St) w (finO v h T k c w) (finD v h T k c w) x
noncomputable def fin2 (v : AV) (cs : List AFrame) (h : Heap) (fn : Nat) (T : Slots) (ds : List ADef) (m : AMode) (fk : FK) (it : AItem) (k : List AItem) (_ : St) : St := fin3 v h T k (.mk fn ds fk cs) (finish (.mk fn T (it :: k) ds m fk) v cs h) (ivOf it)
noncomputable def fin1 (v : AV) (cs : List AFrame) (h : Heap) (fn : Nat) (T : Slots) (k : List AItem) (ds : List ADef) (m : AMode) (fk : FK) : St := List.rec (motive := fun _ => St) (.bad "finish") (fin2 v cs h fn T ds m fk) k
noncomputable def finF (fr : AFrame) (v : AV) (cs : List AFrame) (h : Heap) : St := AFrame.rec (motive := fun _ => St) (fin1 v cs h) fr
omit [Hook] in
theorem finF_eq (fr : AFrame) (v : AV) (cs : List AFrame) (h : Heap) : finF fr v cs h = finish fr v cs h := by
 obtain ⟨fn, T, k, ds, m, fk⟩ := fr
 cases k with
 | nil => rfl
 | cons it k =>
  show fin3 v h T k (.mk fn ds fk cs) (finish (.mk fn T (it :: k) ds m fk) v cs h) (ivOf it) = _
  cases it with
  | ops all rest =>
   cases rest with
   | nil => rfl
   | cons o rest => exact fputK_eq (.ops all rest) k (.mk fn ds fk cs) h v T o.dst
  | dops all plan =>
   cases plan with
   | nil => rfl
   | cons s plan => cases s with
    | op i => exact fputK_eq (.dops all plan) k (.mk fn ds fk cs) h v T (dstAt all i)
    | chk i => rfl
  | _ => rfl
noncomputable def normF (fk : FK) : Bool := FK.rec (motive := fun _ => Bool) true false (fun _ => false) fk
noncomputable def retC (v : AV) (h : Heap) (fr : AFrame) (cs : List AFrame) (_ : St) : St := finF fr v cs h
noncomputable def retF (fk : FK) (cs : List AFrame) (h : Heap) (v : AV) : St := Bool.rec (motive := fun _ => St) (retTo v fk cs h) (List.rec (motive := fun _ => St) (.done v h) (retC v h) cs) (normF fk)
omit [Hook] in
theorem retF_eq (fk : FK) (cs : List AFrame) (h : Heap) (v : AV) : retF fk cs h v = retTo v fk cs h := by
 cases fk with
 | normal =>
  cases cs with
  | nil => rfl
  | cons fr cs => exact finF_eq fr v cs h
 | _ => rfl
inductive RS where | no | one (g : GB) | many (a : AB)
noncomputable def tmpB (t : Nat) (a : AB) : AB := ⟨aC (okT t) a⟩
noncomputable def resAB : List ResultVar → Option AB
 | [] => some ⟨aN⟩
 | .tmp t :: rs => (resAB rs).map (tmpB t)
 | .cell _ _ :: _ => none
noncomputable def resB (rs : List ResultVar) : RS := match rs with
 | [.tmp t] => .one (okT t)
 | rs => match resAB rs with
  | some a => .many a
  | none => .no
omit [Hook] in
theorem resAB_eq (h : Heap) (T : Slots) : ∀ (rs : List ResultVar) (a : AB), resAB rs = some a → ∃ vs, resultsA P h T rs = some vs ∧ vs.length = rs.length ∧ ∀ k, a.f T k = k vs
 | [], a, ha => by
  have ha : some (⟨aN⟩ : AB) = some a := ha
  injection ha with ha; subst ha
  exact ⟨[], rfl, rfl, fun k => rfl⟩
 | .cell _ _ :: _, a, ha => nomatch (show none = some a from ha)
 | .tmp t :: rs, a, ha => by
  have ha : (resAB rs).map (tmpB t) = some a := ha
  cases hr : resAB rs with
  | none => rw [hr] at ha; cases ha
  | some b =>
   rw [hr] at ha
   have ha : some (tmpB t b) = some a := ha
   injection ha with ha; subst ha
   obtain ⟨vs, h1, h2, h3⟩ := resAB_eq h T rs b hr
   refine ⟨T.get t :: vs, by unfold resultsA; rw [h1], by simp [h2], fun k => ?_⟩
   show (okT t).f T (aC1 b T k) = _
   rw [okT_eq]
   show b.f T (aC2 (T.get t) k) = _
   rw [h3]; rfl
def retM (fk : FK) (cs : List AFrame) (h : Heap) (r : FK → List AFrame → Heap → AV → St) (vs : List AV) : St := r fk cs h (.tup vs)
noncomputable def suO (T : Slots) (h : Heap) (fk : FK) (cs : List AFrame) (g : GB) : St := g.f T (retF fk cs h)
noncomputable def suM (T : Slots) (h : Heap) (fk : FK) (cs : List AFrame) (a : AB) : St := a.f T (retM fk cs h retF)
noncomputable def su2 (w : St) (T : Slots) (h : Heap) (fk : FK) (cs : List AFrame) (r : RS) : St := RS.rec (motive := fun _ => St) w (suO T h fk cs) (suM T h fk cs) r
noncomputable def resFQ (fn : Nat) : RS := resB (resultsOf P fn)
noncomputable def nilB (ds : List ADef) : Bool := List.rec (motive := fun _ => Bool) true (fun _ _ _ => false) ds
noncomputable def retB (m : AMode) : Bool := AMode.rec (motive := fun _ => Bool) false true (fun _ => false) m
noncomputable def su1 (m : AMode) (T : Slots) (h : Heap) (fn : Nat) (ds : List ADef) (fk : FK) (cs : List AFrame) : St := Bool.rec (motive := fun _ => St) (stepUn P m T (.mk fn ds fk cs) h) (Bool.rec (motive := fun _ => St) (stepUn P m T (.mk fn ds fk cs) h) (su2 (stepUn P m T (.mk fn ds fk cs) h) T h fk cs (resFQ P fn)) (nilB ds)) (retB m)
noncomputable def stepUnF (m : AMode) (T : Slots) (c : Ctx) (h : Heap) : St := Ctx.rec (motive := fun _ => St) (su1 P m T h) c
omit [Hook] in
theorem stepUnF_eq (m : AMode) (T : Slots) (c : Ctx) (h : Heap) : stepUnF P m T c h = stepUn P m T c h := by
 obtain ⟨fn, ds, fk, cs⟩ := c
 show su1 P m T h fn ds fk cs = _
 cases m with
 | returning =>
  cases ds with
  | cons d ds => rfl
  | nil =>
   show su2 (stepUn P .returning T (.mk fn [] fk cs) h) T h fk cs (resFQ P fn) = unRet P T fn fk cs h
   unfold resFQ unRet resB
   have many : ∀ rs : List ResultVar, (∀ t, rs ≠ [.tmp t]) → rs = resultsOf P fn → su2 (stepUn P .returning T (.mk fn [] fk cs) h) T h fk cs (match resAB rs with | some a => .many a | none => .no) = (match resultsA P h T rs with
     | none => .bad "results"
     | some [v] => retTo v fk cs h
     | some vs => retTo (.tup vs) fk cs h) := by
    intro rs hne hrs
    cases hr : resAB rs with
    | none => subst hrs; rfl
    | some a =>
     obtain ⟨vs, h1, h2, h3⟩ := resAB_eq P h T rs a hr
     show a.f T (retM fk cs h retF) = _
     rw [h3, h1]
     show retF fk cs h (.tup vs) = _
     rw [retF_eq]
     cases vs with
     | nil => rfl
     | cons v vs => cases vs with
      | cons v2 vs => rfl
      | nil =>
       exfalso
       match rs, hne, h2, hr with
       | [.tmp t], hne, _, _ => exact hne t rfl
       | [.cell _ _], _, _, hr => cases hr
   split
   ·rename_i t hrs
    rw [hrs]
    show (okT t).f T (retF fk cs h) = retTo (T.get t) fk cs h
    rw [okT_eq, retF_eq]
   ·rename_i hne
    exact many _ (fun t e => hne t e) rfl
 | _ => rfl
noncomputable def rGo (ih : St → Bool) (T : Slots) (k : List AItem) (c : Ctx) (h : Heap) : Bool := ih (stepGoF P T k c h)
noncomputable def rUn (ih : St → Bool) (m : AMode) (T : Slots) (c : Ctx) (h : Heap) : Bool := ih (stepUnF P m T c h)
noncomputable def rAlt (ih : St → Bool) (l : List (AV × Heap)) (T : Slots) (k : List AItem) (c : Ctx) : Bool := altAll ih T k c l
noncomputable def rBad (_ : String) : Bool := false
noncomputable def stepR (post : AV → Heap → Bool) (_ : Nat) (ih : St → Bool) (s : St) : Bool := St.rec (motive := fun _ => Bool) (rGo P ih) (rUn P ih) post (rAlt ih) rBad s
noncomputable def runF (post : AV → Heap → Bool) (n : Nat) : St → Bool := Nat.rec (motive := fun _ => St → Bool) (fun _ => false) (stepR P post) n
theorem runF_eq (post : AV → Heap → Bool) : ∀ (n : Nat), runF P post n = runAll P post n
 | 0 => rfl
 | n + 1 => by
  have ih := runF_eq post n
  funext s
  show stepR P post n (runF P post n) s = _
  rw [ih]
  cases s with
  | go T k c h => show runAll P post n (stepGoF P T k c h) = runAll P post n (stepGo P T k c h); rw [stepGoF_eq]
  | un m T c h => show runAll P post n (stepUnF P m T c h) = runAll P post n (stepUn P m T c h); rw [stepUnF_eq]
  | _ => rfl
end
end Go.VM
namespace Go.VM
section
variable [H : Hook] {P : Program}
def Sat (P : Program) (w0 : Base) (f : Nat) (k : Nat) : Prop := match k with
 | 0 => True
 | 1 => ∀ (s sub : ByteArray) (w : World), w0.w.heap.size ≤ w.heap.size → (∀ k, w0.F k → w.heap[k]? = w0.w.heap[k]?) → s.size < 4294967281 → Calls P f #[.string s, .string sub] w fun e w' => e = .returned (.int .i64 (Lib.index s.data.toList sub.data.toList)) ∧ w' = w
 | 2 => ∀ (s sub : ByteArray) (w : World), w0.w.heap.size ≤ w.heap.size → (∀ k, w0.F k → w.heap[k]? = w0.w.heap[k]?) → s.size < 4294967281 → Calls P f #[.string s, .string sub] w fun e w' => e = .returned (.bool (Lib.contains s.data.toList sub.data.toList)) ∧ w' = w
 | 3 => ∀ (w : World), w0.w.heap.size ≤ w.heap.size → (∀ k, w0.F k → w.heap[k]? = w0.w.heap[k]?) → Calls P f #[] w fun e w' => e = .returned (.bool true) ∧ Grew w w'
 | k + 4 => PrimOk P w0 f (H.prim k) ∧ ∀ a r, r ∈ H.tab k a → r.ok = true ∧ ∀ (ρ : Rho) (A : List Value) (w : World), RelL ρ r.args A → w0.w.heap.size ≤ w.heap.size → (∀ k, w0.F k → w.heap[k]? = w0.w.heap[k]?) → Calls P f ⟨A⟩ w fun e w' => ∃ ρ1 h1 V, e = .returned V ∧ Rel ρ1 r.val V ∧ Sim (Base.std w) ρ1 h1 w' ∧ ∀ p ∈ r.objs, h1.get p.1 = some p.2
theorem sums_of {w0 : Base} {l : List (Nat × Nat)} (hl : H.sums = lookN l) (hb : ∀ q ∈ l, ∃ c, bodyOf P q.1 = some c) (hc : ∀ q ∈ l, Sat P w0 q.1 q.2) : Sums P w0 := by
 have key : ∀ f k, sumKind f = k → k ≠ 0 → (f, k) ∈ l := fun f k hk h0 => lookN_mem (by rw [← hl]; exact hk) h0
 refine ⟨fun f h => hb _ (key f _ rfl h), fun f h => ?_, fun f h => ?_, fun f h => ?_, fun f k h => ?_, fun f k h => ?_⟩
 ·exact hc _ (key f 1 h (by decide))
 ·exact hc _ (key f 2 h (by decide))
 ·exact hc _ (key f 3 h (by decide))
 ·exact (show _ ∧ _ from hc _ (key f (k + 4) h (by omega))).2
 ·exact (show _ ∧ _ from hc _ (key f (k + 4) h (by omega))).1
noncomputable def startStK (P : Program) (laid : List (Nat × AObj)) (f : Nat) (args : List AV) (k : Key) : St := match bodyOf P f with
 | some c => enter P f args .normal [] ⟨startT laid P.globals.size, k⟩ c
 | none => .bad "no body"
noncomputable def rowRun (P : Program) (laid : List (Nat × AObj)) (f : Nat) (k : Key) (r : Row) : Bool := cond r.ok (runF P (isRow r) 500000 (startStK P laid f r.args k)) false
theorem memo_of (hR : RowsOk P) (hF : P.follows .mixedOrders = true) (h64 : P.globals.size ≤ 64) {laid : List (Nat × AObj)} {tot : Nat → Nat} {f : Nat} {r : Row} {k : Key} {w : World} (hS : SumOk P (Base.at w (startRho tot P.globals.size))) (hw : LaidOk P laid tot w) {ρ : Rho} {A : List Value} (hr : RelL ρ r.args A) (hrun : rowRun P laid f k r = true) :
  Calls P f ⟨A⟩ w fun e w' => ∃ ρ1 h1 V, e = .returned V ∧ Rel ρ1 r.val V ∧ Sim (Base.std w) ρ1 h1 w' ∧ ∀ p ∈ r.objs, h1.get p.1 = some p.2 := by
 obtain ⟨hok, hrun⟩ := condB hrun
 unfold Row.ok at hok
 obtain ⟨hp, _⟩ := condB hok
 rw [runF_eq] at hrun
 unfold startStK at hrun
 cases hb : bodyOf P f with
 | none => rw [hb] at hrun; cases hrun
 | some c =>
  rw [hb] at hrun
  have h0 := start_sim (laid := laid) (tot := tot) h64 hw.1 (fun g o hg hl ρ => hw.2 g o hg hl _ ρ)
  have hs : Sim (Base.at w (startRho tot P.globals.size)) (startRho tot P.globals.size) ⟨startT laid P.globals.size, k⟩ w := ⟨h0.os, h0.out, h0.size, h0.old, h0.sub, h0.obj, h0.inj⟩
  refine (runAll_calls ⟨⟩ ⟨extOk_of_rows hR, hS⟩ hF hs (start_glob h64) (hr.of_plain hp) hb hrun).mono ?_
  rintro e w' ⟨ρ', v, V, h, rfl, hv, hs', _, hpost⟩
  obtain ⟨h1, h2⟩ := condB hpost
  obtain rfl := beqA_eq 60 _ _ h1
  exact ⟨ρ', h, V, rfl, hv, hs'.std, allObj_spec h2⟩
theorem row_ok {laid : List (Nat × AObj)} {f : Nat} {k : Key} {r : Row} (h : rowRun P laid f k r = true) : r.ok = true := (condB h).1
theorem truth_of (hR : RowsOk P) (hF : P.follows .mixedOrders = true) (h64 : P.globals.size ≤ 64) {laid : List (Nat × AObj)} {tot : Nat → Nat} {f : Nat} {args : List AV} {A : List Value} {w : World} (hS : SumOk P (Base.at w (startRho tot P.globals.size))) (hw : LaidOk P laid tot w) (hr : RelL (startRho tot P.globals.size) args A) {n : Nat} (hrun : runF P isTrue n (startSt P laid f args) = true) :
  Calls P f ⟨A⟩ w fun e w' => e = .returned (.bool true) ∧ Grew w w' := by
 rw [runF_eq] at hrun
 refine (runAll_from hR hF h64 hS hw hr hrun).mono ?_
 rintro e w' ⟨ρ, v, V, h, rfl, hv, hs, _, hp⟩
 exact ⟨by rw [isTrue_rel hv hp], Grew.of_sim hs.std⟩
end
def rowsAll (p : Row → Bool) : List Row → Bool
 | [] => true
 | r :: l => cond (p r) (rowsAll p l) false
theorem rowsAll_mem {p : Row → Bool} : ∀ {l : List Row}, rowsAll p l = true → ∀ r ∈ l, p r = true
 | [], _, r, hr => by cases hr
 | q :: l, h, r, hr => by
  obtain ⟨h1, h2⟩ := condB (show cond (p q) (rowsAll p l) false = true from h)
  cases hr with
  | head => exact h1
  | tail _ hr => exact rowsAll_mem h2 r hr
def N8.allb {α : Type} (p : α → Bool) (x : N8 α) : Bool := cond (p x.a0) (cond (p x.a1) (cond (p x.a2) (cond (p x.a3) (cond (p x.a4) (cond (p x.a5) (cond (p x.a6) (p x.a7) false) false) false) false) false) false) false
theorem N8.allb_mk {α : Type} {p : α → Bool} {a0 a1 a2 a3 a4 a5 a6 a7 : α} (h0 : p a0 = true) (h1 : p a1 = true) (h2 : p a2 = true) (h3 : p a3 = true) (h4 : p a4 = true) (h5 : p a5 = true) (h6 : p a6 = true) (h7 : p a7 = true) : (N8.mk a0 a1 a2 a3 a4 a5 a6 a7).allb p = true := by
 simp [N8.allb, h0, h1, h2, h3, h4, h5, h6, h7]
theorem N8.allb_sel {α : Type} {p : α → Bool} {x : N8 α} (h : x.allb p = true) (d : D8) : p ((sel d).f x) = true := by
 obtain ⟨h0, h⟩ := condB h
 obtain ⟨h1, h⟩ := condB h
 obtain ⟨h2, h⟩ := condB h
 obtain ⟨h3, h⟩ := condB h
 obtain ⟨h4, h⟩ := condB h
 obtain ⟨h5, h⟩ := condB h
 obtain ⟨h6, h7⟩ := condB h
 cases d <;> assumption
noncomputable def bktAt (t : N8 (N8 (N8 (List Row)))) (n : Nat) : List Row := (sel (D8.ofNat (n % 8))).f ((sel (D8.ofNat (n / 8 % 8))).f ((sel (D8.ofNat (n / 64))).f t))
noncomputable def bkt (t : N8 (N8 (N8 (List Row)))) (args : List AV) : List Row := match args with
 | [_, .str _ c] => forceN (Nat.mod c 509) (bktAt t)
 | _ => []
theorem bkt_mem {p : Row → Bool} {t : N8 (N8 (N8 (List Row)))} (h : t.allb (fun x => x.allb (fun y => y.allb (rowsAll p))) = true) {args : List AV} {r : Row} (hr : r ∈ bkt t args) : p r = true := by
 unfold bkt at hr
 split at hr
 ·rw [forceN_eq] at hr
  exact rowsAll_mem (N8.allb_sel (N8.allb_sel (N8.allb_sel h _) _) _) r hr
 ·cases hr
end Go.VM
