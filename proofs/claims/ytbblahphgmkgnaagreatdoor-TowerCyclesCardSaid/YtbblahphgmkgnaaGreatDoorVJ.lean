/- Rows that turn memory: what a callee leaves behind, told under other names. No conditions: a library text of the proof. -/
import Derived.Test.YtbblahphgmkgnaaGreatDoorVI
import Derived.Lib.SlBy
namespace Go.VM
def isK (x : Option Key) (b : Key) : Bool := match x with
 | some a => Key.same a b
 | none => false
def mLs (g : AV → AV → Bool) : List AV → List AV → Bool
 | [], [] => true
 | a :: x, b :: y => cond (g a b) (mLs g x y) false
 | _, _ => false
def eqVs : List AV → List AV → Bool
 | [], [] => true
 | a :: x, b :: y => cond (plainEq a b) (eqVs x y) false
 | _, _ => false
def eqNs : List Nat → List Nat → Bool
 | [], [] => true
 | a :: x, b :: y => cond (Nat.beq a b) (eqNs x y) false
 | _, _ => false
def subN : List Nat → List Nat → Bool
 | [], _ => true
 | a :: x, l => cond (elemN a l) (subN x l) false
theorem eqVs_is : ∀ {x y : List AV}, eqVs x y = true → x = y
 | [], [], _ => rfl
 | a :: x, b :: y, h => by
  unfold eqVs at h
  cases hp : plainEq a b with
  | true => rw [hp] at h; rw [plainEq_eq hp, eqVs_is (show eqVs x y = true from h)]
  | false => rw [hp] at h; cases h
 | [], _ :: _, h => by cases h
 | _ :: _, [], h => by cases h
theorem eqNs_is : ∀ {x y : List Nat}, eqNs x y = true → x = y
 | [], [], _ => rfl
 | a :: x, b :: y, h => by
  unfold eqNs at h
  cases hp : Nat.beq a b with
  | true => rw [hp] at h; rw [Nat.eq_of_beq_eq_true hp, eqNs_is (show eqNs x y = true from h)]
  | false => rw [hp] at h; cases h
 | [], _ :: _, h => by cases h
 | _ :: _, [], h => by cases h
theorem elemN_mem : ∀ {i : Nat} {l : List Nat}, elemN i l = true → i ∈ l
 | _, [], h => by cases h
 | i, j :: r, h => by
  unfold elemN at h
  cases hb : Nat.beq i j with
  | true => rw [Nat.eq_of_beq_eq_true hb]; exact List.mem_cons_self ..
  | false => rw [hb] at h; exact List.mem_cons_of_mem _ (elemN_mem h)
theorem subN_mem : ∀ {x l : List Nat}, subN x l = true → ∀ i ∈ x, i ∈ l
 | [], _, _, _, h => by cases h
 | a :: x, l, h, i, hi => by
  unfold subN at h
  cases hb : elemN a l with
  | false => rw [hb] at h; cases h
  | true =>
   rw [hb] at h
   cases hi with
   | head => exact elemN_mem hb
   | tail _ hi => exact subN_mem h i hi
def mV (f : Key → Option Key) : Nat → AV → AV → Bool
 | 0, _, _ => false
 | d + 1, x, y => match x with
  | .junk => true
  | .ustr l => (match y with | .ustr m => Nat.beq l m | .str m _ => Nat.beq l m | .tab _ _ vs => strsOf l vs | _ => false)
  | .tab a ds vs => (match y with | .tab b es us => cond (isK (f a) b) (cond (eqNs ds es) (eqVs vs us) false) false | _ => false)
  | .bool a => (match y with | .bool b => a == b | _ => false)
  | .int k a => (match y with | .int k' b => cond (Nat.beq (kindNo k) (kindNo k')) (intEq a b) false | _ => false)
  | .float .f64 a => (match y with | .float .f64 b => Nat.beq a b | _ => false)
  | .str l a => (match y with | .str m b => cond (Nat.beq l m) (Nat.beq a b) false | _ => false)
  | .nilPtr => (match y with | .nilPtr => true | _ => false)
  | .ptr a o => (match y with | .ptr b q => cond (isK (f a) b) (Nat.beq o q) false | _ => false)
  | .nilSlice => (match y with | .nilSlice => true | _ => false)
  | .emptyS => (match y with | .emptyS => true | _ => false)
  | .slice a o l c => (match y with | .slice b q m e => cond (isK (f a) b) (cond (Nat.beq o q) (cond (Nat.beq l m) (beqCap c e) false) false) false | _ => false)
  | .nilMap => (match y with | .nilMap => true | _ => false)
  | .map a => (match y with | .map b => isK (f a) b | _ => false)
  | .nilFunc => (match y with | .nilFunc => true | _ => false)
  | .nilIface => (match y with | .nilIface => true | _ => false)
  | .iface t a => (match y with | .iface u b => cond (Nat.beq t u) (mV f d a b) false | _ => false)
  | .func (.func g) a b => (match y with | .func (.func g') x' y' => cond (Nat.beq g g') (cond (mLs (mV f d) a x') (mLs (mV f d) b y') false) false | _ => false)
  | .agg a => (match y with | .agg b => mLs (mV f d) a b | _ => false)
  | .tup a => (match y with | .tup b => mLs (mV f d) a b | _ => false)
  | .undef => (match y with | .undef => true | _ => false)
  | _ => false
def mEs (f : Key → Option Key) : List (AV × AV × Nat) → List (AV × AV × Nat) → Bool
 | [], [] => true
 | a :: x, b :: y => cond (mV f 20 a.1 b.1) (cond (mV f 20 a.2.1 b.2.1) (cond (Nat.beq a.2.2 b.2.2) (mEs f x y) false) false) false
 | _, _ => false
def consE (e : AV × AV) (x : Option (List (AV × AV))) : Option (List (AV × AV)) := match x with
 | some l => some (e :: l)
 | none => none
def takeE (f : Key → Option Key) (k v : AV) : List (AV × AV) → Option (List (AV × AV))
 | [] => none
 | e :: r => cond (cond (mV f 20 k e.1) (mV f 20 v e.2) false) (some r) (consE e (takeE f k v r))
def lmGo (f : Key → Option Key) : List (AV × AV) → List (AV × AV) → Bool
 | [], [] => true
 | [], _ :: _ => false
 | e :: r, l => match takeE f e.1 e.2 l with
  | some l' => lmGo f r l'
  | none => false
def stripE : List (AV × AV × Nat) → List (AV × AV)
 | [] => []
 | e :: r => (e.1, e.2.1) :: stripE r
def anyV (f : Key → Option Key) (es : List (AV × AV × Nat)) (c : Nat) : List (List (AV × AV × Nat) × Nat) → Bool
 | [] => false
 | v :: r => cond (cond (Nat.beq v.2 c) (mEs f v.1 es) false) true (anyV f es c r)
def allV (f : Key → Option Key) (vs : List (List (AV × AV × Nat) × Nat)) : List (List (AV × AV × Nat) × Nat) → Bool
 | [] => true
 | v :: r => cond (anyV f v.1 v.2 vs) (allV f vs r) false
def eqL (x y : Option Nat) : Bool := match x, y with
 | none, none => true
 | some a, some b => Nat.beq a b
 | _, _ => false
noncomputable def eq8R {α : Type} (g : α → α → Bool) (a0 a1 a2 a3 a4 a5 a6 a7 : α) (y : N8 α) : Bool := N8.rec (motive := fun _ => Bool) (fun b0 b1 b2 b3 b4 b5 b6 b7 => cond (g a0 b0) (cond (g a1 b1) (cond (g a2 b2) (cond (g a3 b3) (cond (g a4 b4) (cond (g a5 b5) (cond (g a6 b6) (g a7 b7) false) false) false) false) false) false) false) y
noncomputable def eq8 {α : Type} (g : α → α → Bool) (x y : N8 α) : Bool := N8.rec (motive := fun _ => Bool) (fun a0 a1 a2 a3 a4 a5 a6 a7 => eq8R g a0 a1 a2 a3 a4 a5 a6 a7 y) x
noncomputable def eqRN (t u : RT Nat) : Bool := eq8 (eq8 (eq8 (eq8 (eq8 eqL)))) t.t u.t
noncomputable def mO (f : Key → Option Key) (o' o : AObj) : Bool := match o' with
 | .dead => true
 | .cells e cs opn fz => (match o with | .cells e2 cs2 opn2 fz2 => cond (Nat.beq e e2) (cond (beqB opn opn2) (cond (Nat.beq fz fz2) (mLs (mV f 20) cs cs2) false) false) false | _ => false)
 | .map es c => (match o with | .map es2 c2 => cond (Nat.beq c c2) (mEs f es es2) false | _ => false)
 | .lmap es => (match o with
  | .lmap es2 => lmGo f es es2
  | .map es2 c => cond (bornOk c es2) (lmGo f es (stripE es2)) false
  | .smap es2 _ => lmGo f es (stripK es2)
  | _ => false)
 | .mapAlt vs => (match o with
  | .map es c => anyV f es c vs
  | .mapAlt vs2 => allV f vs vs2
  | _ => false)
 | .bits e n c => (match o with
  | .bits e2 n2 c2 => cond (Nat.beq e e2) (cond (Nat.beq n n2) (Nat.beq c c2) false) false
  | _ => false)
 | .bytes e n => (match o with
  | .bytes e2 n2 => cond (Nat.beq e e2) (Nat.beq n n2) false
  | .pack e2 k _ => cond (Nat.beq e e2) (Nat.beq n (256 * k)) false
  | _ => false)
 | .pack e k t => (match o with | .pack e2 k2 t2 => cond (Nat.beq e e2) (cond (Nat.beq k k2) (eqRN t t2) false) false | _ => false)
 | .dom ds => (match o with | .dom es => subN es ds | _ => false)
 | _ => false
theorem eqL_is {x y : Option Nat} (h : eqL x y = true) : x = y := by
 cases x <;> cases y <;> first | rfl | (rw [Nat.eq_of_beq_eq_true h]) | cases h
theorem condB2 {a b : Bool} (h : cond a b false = true) : a = true ∧ b = true := by cases a <;> cases b <;> first | exact ⟨rfl, rfl⟩ | cases h
theorem eq8_is {α : Type} {g : α → α → Bool} (hg : ∀ a b, g a b = true → a = b) {x y : N8 α} (h : eq8 g x y = true) : x = y := by
 obtain ⟨a0, a1, a2, a3, a4, a5, a6, a7⟩ := x
 obtain ⟨b0, b1, b2, b3, b4, b5, b6, b7⟩ := y
 have h : cond (g a0 b0) (cond (g a1 b1) (cond (g a2 b2) (cond (g a3 b3) (cond (g a4 b4) (cond (g a5 b5) (cond (g a6 b6) (g a7 b7) false) false) false) false) false) false) false = true := h
 obtain ⟨h0, h⟩ := condB2 h
 obtain ⟨h1, h⟩ := condB2 h
 obtain ⟨h2, h⟩ := condB2 h
 obtain ⟨h3, h⟩ := condB2 h
 obtain ⟨h4, h⟩ := condB2 h
 obtain ⟨h5, h⟩ := condB2 h
 obtain ⟨h6, h7⟩ := condB2 h
 rw [hg _ _ h0, hg _ _ h1, hg _ _ h2, hg _ _ h3, hg _ _ h4, hg _ _ h5, hg _ _ h6, hg _ _ h7]
theorem eqRN_is {t u : RT Nat} (h : eqRN t u = true) : t = u := by
 obtain ⟨t⟩ := t
 obtain ⟨u⟩ := u
 have e : t = u := eq8_is (fun _ _ => eq8_is fun _ _ => eq8_is fun _ _ => eq8_is fun _ _ => eq8_is fun _ _ => eqL_is) h
 rw [e]
section
variable {f : Key → Option Key} {ρ ρ' : Rho}
theorem isK_is {x : Option Key} {b : Key} (h : isK x b = true) : x = some b := by
 cases x with
 | none => cases h
 | some a => rw [(Key.same_iff _ _).1 (show Key.same a b = true from h)]
theorem mLs_len {g : AV → AV → Bool} : ∀ {x y : List AV}, mLs g x y = true → x.length = y.length
 | [], [], _ => rfl
 | a :: x, b :: y, h => by
  unfold mLs at h
  obtain ⟨_, h2⟩ := condB h
  simp [mLs_len h2]
 | [], _ :: _, h => by cases h
 | _ :: _, [], h => by cases h
theorem mLs_ok {g : AV → AV → Bool} (hg : ∀ x y V, g x y = true → Rel ρ y V → Rel ρ' x V) : ∀ {x y : List AV} {Y : List Value}, mLs g x y = true → RelL ρ y Y → RelL ρ' x Y
 | [], [], _, _, h => by cases h; exact .nil
 | a :: x, b :: y, _, hm, h => by
  unfold mLs at hm
  obtain ⟨h1, h2⟩ := condB hm
  cases h with
  | cons _ V _ R hv hr => exact .cons a V x R (hg a b V h1 hv) (mLs_ok hg h2 hr)
 | [], _ :: _, _, h, _ => by cases h
 | _ :: _, [], _, h, _ => by cases h
theorem mV_ok (hf : ∀ a b L, f a = some b → ρ b = some L → ρ' a = some L) : ∀ (d : Nat) (x y : AV) (V : Value), mV f d x y = true → Rel ρ y V → Rel ρ' x V
 | 0, _, _, _, h, _ => by cases h
 | d + 1, x, y, V, h, hr => by
  have ih := mV_ok hf d
  unfold mV at h
  split at h
  ·exact .junk V
  ·split at h
   ·obtain rfl := Nat.eq_of_beq_eq_true h
    cases hr with | ustr l s hl => exact .ustr _ s hl
   ·obtain rfl := Nat.eq_of_beq_eq_true h
    cases hr with | str l c hc => exact .ustr _ _ (strOf_size _ _)
   ·cases hr with
    | tab b ds vs L V hb hp hr =>
     obtain ⟨s, rfl, hs⟩ := strsOf_rel h hp hr
     exact .ustr _ s hs
   ·cases h
  ·split at h
   ·obtain ⟨h1, h⟩ := condB h
    obtain ⟨h2, h3⟩ := condB h
    obtain rfl := eqNs_is h2
    obtain rfl := eqVs_is h3
    cases hr with | tab _ _ _ L V hb hp hr => exact .tab _ _ _ L V (hf _ _ L (isK_is h1) hb) hp (hr.of_plain hp)
   ·cases h
  ·split at h
   ·obtain rfl : _ = _ := by simpa using h
    cases hr; exact .bool _
   ·cases h
  ·split at h
   ·obtain ⟨h1, h2⟩ := condB h
    obtain rfl := kindNo_inj h1
    obtain rfl := (intEq_iff _ _).1 h2
    cases hr; exact .int _ _
   ·cases h
  ·split at h
   ·obtain rfl := Nat.eq_of_beq_eq_true h
    cases hr; exact .float _ _
   ·cases h
  ·split at h
   ·obtain ⟨h1, h2⟩ := condB h
    obtain rfl := Nat.eq_of_beq_eq_true h1
    obtain rfl := Nat.eq_of_beq_eq_true h2
    cases hr with | str _ _ hc => exact .str _ _ hc
   ·cases h
  ·split at h
   ·cases hr; exact .nilPtr
   ·cases h
  ·split at h
   ·obtain ⟨h1, h2⟩ := condB h
    obtain rfl := Nat.eq_of_beq_eq_true h2
    cases hr with | ptr _ _ L hb => exact .ptr _ _ L (hf _ _ L (isK_is h1) hb)
   ·cases h
  ·split at h
   ·cases hr; exact .nilSlice
   ·cases h
  ·split at h
   ·cases hr; exact .emptyS _ _
   ·cases h
  ·split at h
   ·obtain ⟨h1, h⟩ := condB h
    obtain ⟨h2, h⟩ := condB h
    obtain ⟨h3, h4⟩ := condB h
    obtain rfl := Nat.eq_of_beq_eq_true h2
    obtain rfl := Nat.eq_of_beq_eq_true h3
    obtain rfl := beqCap_eq h4
    cases hr with
    | sliceIs _ _ _ c L hb => exact .sliceIs _ _ _ c L (hf _ _ L (isK_is h1) hb)
    | sliceMore _ _ _ c sz L hb hc ht => exact .sliceMore _ _ _ c sz L (hf _ _ L (isK_is h1) hb) hc ht
   ·cases h
  ·split at h
   ·cases hr; exact .nilMap
   ·cases h
  ·split at h
   ·cases hr with | map _ L hb => exact .map _ L (hf _ _ L (isK_is h) hb)
   ·cases h
  ·split at h
   ·cases hr; exact .nilFunc
   ·cases h
  ·split at h
   ·cases hr; exact .nilIface
   ·cases h
  ·split at h
   ·obtain ⟨h1, h2⟩ := condB h
    obtain rfl := Nat.eq_of_beq_eq_true h1
    cases hr with | iface t v W hv => exact .iface _ _ W (ih _ _ W h2 hv)
   ·cases h
  ·split at h
   ·obtain ⟨h1, h⟩ := condB h
    obtain ⟨h2, h3⟩ := condB h
    obtain rfl := Nat.eq_of_beq_eq_true h1
    cases hr with | func _ _ _ A B ha hb => exact .func _ _ _ A B (mLs_ok ih h2 ha) (mLs_ok ih h3 hb)
   ·cases h
  ·split at h
   ·cases hr with | agg _ A ha => exact .agg _ A (mLs_ok ih h ha)
   ·cases h
  ·split at h
   ·cases hr with
    | tup _ A ha => exact .tup _ A (mLs_ok ih h ha)
   ·cases h
  ·split at h
   ·cases hr; exact .undef
   ·cases h
  ·cases h
theorem mEs_ok (hf : ∀ a b L, f a = some b → ρ b = some L → ρ' a = some L) : ∀ {x y : List (AV × AV × Nat)} {E : List MapEntry}, mEs f x y = true → ERel ρ y E → ERel ρ' x E
 | [], [], _, _, h => by cases h; exact .nil
 | (k, v, c) :: x, (k', v', c') :: y, _, hm, h => by
  unfold mEs at hm
  obtain ⟨h1, hm⟩ := condB hm
  obtain ⟨h2, hm⟩ := condB hm
  obtain ⟨h3, hm⟩ := condB hm
  have h3 : c = c' := Nat.eq_of_beq_eq_true h3
  have hm2 : mEs f x y = true := hm
  subst h3
  cases h with
  | cons _ _ K V _ _ R hk hv hr => exact .cons k v K V c x R (mV_ok hf 20 _ _ _ h1 hk) (mV_ok hf 20 _ _ _ h2 hv) (mEs_ok hf hm2 hr)
 | [], _ :: _, _, h, _ => by cases h
 | _ :: _, [], _, h, _ => by cases h
inductive F2 {α β : Type} (M : α → β → Prop) : List α → List β → Prop where
 | nil : F2 M [] []
 | cons {a : α} {b : β} {x : List α} {y : List β} (h : M a b) (hr : F2 M x y) : F2 M (a :: x) (b :: y)
theorem F2.perm {α β : Type} {M : α → β → Prop} {l1 l2 : List β} (hp : l1.Perm l2) : ∀ {es : List α}, F2 M es l2 → ∃ es1, es1.Perm es ∧ F2 M es1 l1 := by
 induction hp with
 | nil => intro es h; exact ⟨es, .refl _, h⟩
 | cons x _ ih =>
  intro es h
  cases h with
  | cons hm hr =>
   obtain ⟨es1, h1, h2⟩ := ih hr
   exact ⟨_ :: es1, h1.cons _, .cons hm h2⟩
 | swap x y l =>
  intro es h
  cases h with
  | cons hm hr => cases hr with
   | cons hm2 hr2 => exact ⟨_, List.Perm.swap _ _ _, .cons hm2 (.cons hm hr2)⟩
 | trans _ _ ih1 ih2 =>
  intro es h
  obtain ⟨es1, h1, h2⟩ := ih2 h
  obtain ⟨es2, h3, h4⟩ := ih1 h2
  exact ⟨es2, h3.trans h1, h4⟩
def ME (f : Key → Option Key) (e x : AV × AV) : Prop := mV f 20 e.1 x.1 = true ∧ mV f 20 e.2 x.2 = true
theorem takeE_some {k v : AV} : ∀ {l l' : List (AV × AV)}, takeE f k v l = some l' → ∃ e, l.Perm (e :: l') ∧ ME f (k, v) e
 | [], _, h => by cases h
 | e :: r, l', h => by
  unfold takeE at h
  cases hc : cond (mV f 20 k e.1) (mV f 20 v e.2) false with
  | true =>
   rw [hc] at h
   have h : some r = some l' := h
   injection h with h; subst h
   exact ⟨e, .refl _, condB hc⟩
  | false =>
   rw [hc] at h
   have h : consE e (takeE f k v r) = some l' := h
   cases ht : takeE f k v r with
   | none => rw [ht] at h; cases h
   | some l2 =>
    rw [ht] at h
    have h : some (e :: l2) = some l' := h
    injection h with h; subst h
    obtain ⟨x, hp, hm⟩ := takeE_some ht
    exact ⟨x, (hp.cons e).trans (List.Perm.swap _ _ _), hm⟩
theorem lmGo_ok : ∀ {es l : List (AV × AV)}, lmGo f es l = true → ∃ l2, l.Perm l2 ∧ F2 (ME f) es l2
 | [], [], _ => ⟨[], .refl _, .nil⟩
 | [], _ :: _, h => by cases h
 | e :: r, l, h => by
  unfold lmGo at h
  split at h
  ·rename_i l' ht
   obtain ⟨x, hp, hm⟩ := takeE_some ht
   obtain ⟨l2, hp2, h2⟩ := lmGo_ok h
   exact ⟨x :: l2, hp.trans (hp2.cons x), .cons hm h2⟩
  ·cases h
theorem F2.erel (hf : ∀ a b L, f a = some b → ρ b = some L → ρ' a = some L) : ∀ {es1 : List (AV × AV)} {esa : List (AV × AV × Nat)} {E : List MapEntry}, F2 (ME f) es1 (esa.map strip) → ERel ρ esa E → ∃ es2 : List (AV × AV × Nat), es2.map strip = es1 ∧ ERel ρ' es2 E
 | es1, [], _, h2, he => by cases he; cases h2; exact ⟨[], rfl, .nil⟩
 | es1, (k, v, c) :: r, _, h2, he => by
  cases he with
  | cons _ _ K V _ _ R hk hv hr =>
   cases h2 with
   | @cons a _ x _ hm h2 =>
    obtain ⟨es2, h3, h4⟩ := F2.erel hf h2 hr
    obtain ⟨k', v'⟩ := a
    exact ⟨(k', v', c) :: es2, by rw [List.map_cons, h3]; rfl, .cons k' v' K V c es2 R (mV_ok hf 20 _ _ _ hm.1 hk) (mV_ok hf 20 _ _ _ hm.2 hv) h4⟩
theorem lmGo_rel (hf : ∀ a b L, f a = some b → ρ b = some L → ρ' a = some L) {es l : List (AV × AV)} {E : List MapEntry} (hm : lmGo f es l = true) (h : LRel ρ l E) : LRel ρ' es E := by
 obtain ⟨esa, hp, he⟩ := h
 obtain ⟨l2, hp2, h2⟩ := lmGo_ok hm
 obtain ⟨es1, hq, h3⟩ := F2.perm (hp.trans hp2) h2
 obtain ⟨es2, h4, h5⟩ := F2.erel hf h3 he
 exact ⟨es2, by show (es2.map strip).Perm es; rw [h4]; exact hq, h5⟩
theorem stripE_eq : ∀ es : List (AV × AV × Nat), stripE es = es.map strip
 | [] => rfl
 | e :: r => by rw [List.map_cons, ← stripE_eq r]; rfl
theorem stamp_of {es : List (AV × AV × Nat)} {E : List MapEntry} {c : Nat} (he : ERel ρ es E) (hb : bornOk c es = true) : Stamp E c := by
 obtain ⟨hb1, hb2⟩ := condB (show cond (allLt c (bornsOf es)) (nodupN (bornsOf es)) false = true from hb)
 refine ⟨fun e hm => ?_, ?_⟩
 ·have h1 : e.born ∈ E.map (·.born) := List.mem_map.2 ⟨e, hm, rfl⟩
  rw [he.borns, ← bornsOf_eq] at h1
  exact allLt_spec hb1 _ h1
 ·rw [he.borns, ← bornsOf_eq]; exact nodupN_spec hb2
theorem anyV_ok {es : List (AV × AV × Nat)} {c : Nat} : ∀ {vs : List (List (AV × AV × Nat) × Nat)}, anyV f es c vs = true → ∃ v ∈ vs, v.2 = c ∧ mEs f v.1 es = true
 | [], h => by cases h
 | v :: r, h => by
  unfold anyV at h
  cases hc : cond (Nat.beq v.2 c) (mEs f v.1 es) false with
  | true =>
   obtain ⟨h1, h2⟩ := condB hc
   exact ⟨v, List.mem_cons_self .., Nat.eq_of_beq_eq_true h1, h2⟩
  | false =>
   rw [hc] at h
   obtain ⟨x, hx, h1⟩ := anyV_ok (vs := r) h
   exact ⟨x, List.mem_cons_of_mem _ hx, h1⟩
theorem allV_ok {vs : List (List (AV × AV × Nat) × Nat)} : ∀ {vs2 : List (List (AV × AV × Nat) × Nat)}, allV f vs vs2 = true → ∀ v ∈ vs2, anyV f v.1 v.2 vs = true
 | [], _, v, hv => by cases hv
 | x :: r, h, v, hv => by
  unfold allV at h
  obtain ⟨h1, h2⟩ := condB h
  cases hv with
  | head => exact h1
  | tail _ hv => exact allV_ok h2 v hv
theorem pack_bytes {N : Nat → Prop} {L : Loc} {O : Option Obj} {e k : Nat} {t : RT Nat} (h : ObjRel N ρ L O (.pack e k t)) : ObjRel N ρ L O (.bytes e (256 * k)) := by
 have hall : ∀ k, allByte (packCells t k) = true := by
  have happ : ∀ a b, allByte a = true → allByte b = true → allByte (a ++ b) = true := by
   intro a b ha hb
   induction a with
   | nil => exact hb
   | cons x r ih =>
    cases x with
    | int kk n =>
     cases kk <;> cases n <;> simp [allByte] at ha
     rename_i n
     show cond (Nat.blt n 256) (allByte (r ++ b)) false = true
     have h1 : Nat.blt n 256 = true := by rw [Nat.blt_eq]; exact ha.1
     rw [h1, ih ha.2]; rfl
    | _ => simp [allByte] at ha
  intro k
  induction k with
  | zero => rfl
  | succ k ih => rw [packCells, cat_eq]; exact happ _ _ ih (allByte_bytes _ _)
 exact to_bytes (by rw [packCells_len]) (hall k) h
theorem mO_ok (hf : ∀ a b L, f a = some b → ρ b = some L → ρ' a = some L) {N : Nat → Prop} {L : Loc} {O : Option Obj} {o' o : AObj} (hm : mO f o' o = true) (h : ObjRel N ρ L O o) : ObjRel N ρ' L O o' := by
 unfold mO at hm
 split at hm
 ·exact trivial
 ·split at hm
  ·obtain ⟨h1, q1⟩ := condB hm
   obtain ⟨h2, q2⟩ := condB q1
   obtain ⟨h3, q3⟩ := condB q2
   obtain rfl := Nat.eq_of_beq_eq_true h1
   obtain rfl := beqB_is h2
   obtain rfl := Nat.eq_of_beq_eq_true h3
   have hl := mLs_len q3
   obtain ⟨a, C, q, e1, e2, e3, ⟨e4, e5⟩, e6, e7⟩ := h
   exact ⟨a, C, q, e1, e2, e3, ⟨by rw [hl]; exact e4, by rw [hl]; exact mLs_ok (mV_ok hf 20) q3 e5⟩, fun x => by rw [hl]; exact e6 x, e7⟩
  ·cases hm
 ·split at hm
  ·obtain ⟨h1, q1⟩ := condB hm
   obtain rfl := Nat.eq_of_beq_eq_true h1
   obtain ⟨a, E, e1, e2⟩ := h
   exact ⟨a, E, e1, mEs_ok hf q1 e2⟩
  ·cases hm
 ·split at hm
  ·obtain ⟨a, E, c, e1, e2, e3⟩ := h
   exact ⟨a, E, c, e1, lmGo_rel hf hm e2, e3⟩
  ·obtain ⟨h1, hm⟩ := condB hm
   obtain ⟨a, E, e1, e2⟩ := h
   refine ⟨a, E, _, e1, lmGo_rel hf hm ⟨_, ?_, e2⟩, stamp_of e2 h1⟩
   rw [stripE_eq]
   exact .refl _
  ·obtain ⟨a, E, c, _, e1, ⟨x, y, k1, k2, k3⟩, e3⟩ := h
   refine ⟨a, E, c.base, e1, lmGo_rel hf hm ⟨x, ?_, k3⟩, e3⟩
   rw [← stripK_eq k1]
   exact k2.map _
  ·cases hm
 ·split at hm
  ·obtain ⟨v, hv, h1, h2⟩ := anyV_ok hm
   obtain ⟨a, E, e1, e2⟩ := h
   exact ⟨a, v, hv, E, by rw [h1]; exact e1, mEs_ok hf h2 e2⟩
  ·obtain ⟨a, x, hx, E, e1, e2⟩ := h
   obtain ⟨v, hv, h1, h2⟩ := anyV_ok (allV_ok hm x hx)
   exact ⟨a, v, hv, E, by rw [h1]; exact e1, mEs_ok hf h2 e2⟩
  ·cases hm
 ·split at hm
  ·obtain ⟨h1, q1⟩ := condB hm
   obtain ⟨h2, h3⟩ := condB q1
   obtain rfl := Nat.eq_of_beq_eq_true h1
   obtain rfl := Nat.eq_of_beq_eq_true h2
   obtain rfl := Nat.eq_of_beq_eq_true h3
   obtain ⟨a, C, q, e1, f1, g1, k1, i1, j1⟩ := h
   exact ⟨a, C, q, e1, f1, g1, ⟨k1.1, bits_rel k1.2⟩, i1, j1⟩
  ·cases hm
 ·split at hm
  ·obtain ⟨h1, h2⟩ := condB hm
   obtain rfl := Nat.eq_of_beq_eq_true h1
   obtain rfl := Nat.eq_of_beq_eq_true h2
   exact h
  ·obtain ⟨h1, h2⟩ := condB hm
   obtain rfl := Nat.eq_of_beq_eq_true h1
   obtain rfl := Nat.eq_of_beq_eq_true h2
   obtain ⟨a1, a2, a3, zs, a4, a5⟩ := pack_bytes h
   exact ⟨a1, a2, a3, zs, a4, a5⟩
  ·cases hm
 ·split at hm
  ·obtain ⟨h1, q1⟩ := condB hm
   obtain ⟨h2, h3⟩ := condB q1
   obtain rfl := Nat.eq_of_beq_eq_true h1
   obtain rfl := Nat.eq_of_beq_eq_true h2
   obtain rfl := eqRN_is h3
   obtain ⟨a, C, q, e1, f1, g1, k1, i1, j1⟩ := h
   exact ⟨a, C, q, e1, f1, g1, ⟨k1.1, packCells_rel k1.2⟩, i1, j1⟩
  ·cases hm
 ·split at hm
  ·exact subN_mem hm _ h
  ·cases hm
 ·cases hm
theorem mO_live {o' o : AObj} (hm : mO f o' o = true) (hl : o'.live = true) : o.live = true := by
 unfold mO at hm
 split at hm
 ·cases hl
 all_goals first
  | cases hl; done
  | (split at hm <;> first | rfl | cases hm)
  | cases hm
theorem mO_free {N : Nat → Prop} {L : Loc} {O : Option Obj} {o' o : AObj} (hm : mO f o' o = true) (hl : o'.live = true) (h : ObjRel N ρ L O o) : ¬ N L.B := by
 unfold mO at hm
 split at hm
 ·cases hl
 all_goals first
  | cases hl; done
  | (split at hm <;> first | exact h.1 | cases hm)
  | cases hm
end
end Go.VM
namespace Go.VM
structure MRow where
 args : List AV
 pre : List (Key × AObj)
 val : AV
 post : List (Key × AObj)
noncomputable def putO : List (Key × AObj) → RT AObj → RT AObj
 | [], t => t
 | p :: r, t => putO r (t.set p.2 p.1)
noncomputable def MRow.preT (r : MRow) : RT AObj := putO r.pre RT.nil
noncomputable def MRow.tgtT (r : MRow) : RT AObj := putO r.post r.preT
noncomputable def trk (preT tgtT : RT AObj) (π : RT Key) (b : Key) : Option Key := match tgtT.get b with
 | none => none
 | some _ => match preT.get b with
  | some _ => some b
  | none => π.get b
noncomputable def covAll (f : Key → Option Key) (tgtT : RT AObj) (h : Heap) : List (Key × AObj) → Bool
 | [] => true
 | p :: r => match tgtT.get p.1, f p.1 with
  | some o', some b => (match h.get b with
   | some o => cond (mO f o' o) (covAll f tgtT h r) false
   | none => false)
  | _, _ => false
noncomputable def injK (π : RT Key) (preT : RT AObj) : List (Key × AObj) → RT Key → Bool
 | [], _ => true
 | p :: r, inv => match preT.get p.1 with
  | some _ => injK π preT r inv
  | none => match π.get p.1 with
   | none => false
   | some b => match preT.get b, inv.get b with
    | none, none => injK π preT r (inv.set p.1 b)
    | _, _ => false
noncomputable def covB (r : MRow) (v : AV) (h : Heap) (π : RT Key) : Bool :=
 cond (mV (trk r.preT r.tgtT π) 20 r.val v) (cond (covAll (trk r.preT r.tgtT π) r.tgtT h r.post) (cond (covAll (trk r.preT r.tgtT π) r.tgtT h r.pre) (injK π r.preT r.post RT.nil) false) false) false
def prsL (g : AV → AV → List (Key × Key)) : List AV → List AV → List (Key × Key)
 | a :: x, b :: y => cat (g a b) (prsL g x y)
 | _, _ => []
def prsV : Nat → AV → AV → List (Key × Key)
 | 0, _, _ => []
 | d + 1, x, y => match x with
  | .ptr a _ => (match y with | .ptr b _ => [(a, b)] | _ => [])
  | .slice a _ _ _ => (match y with | .slice b _ _ _ => [(a, b)] | _ => [])
  | .map a => (match y with | .map b => [(a, b)] | _ => [])
  | .iface _ a => (match y with | .iface _ b => prsV d a b | _ => [])
  | .func _ a b => (match y with | .func _ a' b' => cat (prsL (prsV d) a a') (prsL (prsV d) b b') | _ => [])
  | .agg a => (match y with | .agg b => prsL (prsV d) a b | _ => [])
  | .tup a => (match y with | .tup b => prsL (prsV d) a b | _ => [])
  | .tab a _ _ => (match y with | .tab b _ _ => [(a, b)] | _ => [])
  | _ => []
def prsE : List (AV × AV × Nat) → List (AV × AV × Nat) → List (Key × Key)
 | a :: x, b :: y => cat (prsV 20 a.1 b.1) (cat (prsV 20 a.2.1 b.2.1) (prsE x y))
 | _, _ => []
def lookE (k : AV) : List (AV × AV) → Option AV
 | [] => none
 | e :: r => cond (scalEq k e.1) (some e.2) (lookE k r)
def prsO1 (v : AV) (x : Option AV) : List (Key × Key) := match x with
 | some y => prsV 20 v y
 | none => []
def prsM (l : List (AV × AV)) : List (AV × AV) → List (Key × Key)
 | [] => []
 | e :: r => cat (prsO1 e.2 (lookE e.1 l)) (prsM l r)
def prsA (l : List (AV × AV × Nat)) : List (List (AV × AV × Nat) × Nat) → List (Key × Key)
 | [] => []
 | v :: _ => prsM (stripE l) (stripE v.1)
def prsO (o' o : AObj) : List (Key × Key) := match o' with
 | .cells _ cs _ _ => (match o with | .cells _ cs2 _ _ => prsL (prsV 20) cs cs2 | _ => [])
 | .map es _ => (match o with | .map es2 _ => prsE es es2 | _ => [])
 | .lmap es => (match o with | .lmap es2 => prsM es2 es | .map es2 _ => prsM (stripE es2) es | _ => [])
 | .mapAlt vs => (match o with | .map es2 _ => prsA es2 vs | _ => [])
 | _ => []
def prs2 (x y : Option AObj) : List (Key × Key) := match x, y with
 | some a, some b => prsO a b
 | _, _ => []
noncomputable def uniS (preT tgtT : RT AObj) (h : Heap) (ih : List (Key × Key) → RT Key → RT Key) (l : List (Key × Key)) (π : RT Key) : RT Key := match l with
 | [] => π
 | p :: r => match preT.get p.1 with
  | some _ => ih r π
  | none => match π.get p.1 with
   | some _ => ih r π
   | none => ih (cat (prs2 (tgtT.get p.1) (h.get p.2)) r) (π.set p.2 p.1)
noncomputable def uni (preT tgtT : RT AObj) (h : Heap) (n : Nat) : List (Key × Key) → RT Key → RT Key := Nat.rec (motive := fun _ => List (Key × Key) → RT Key → RT Key) (fun _ π => π) (fun _ ih => uniS preT tgtT h ih) n
noncomputable def uniPre (tgtT : RT AObj) (h : Heap) : List (Key × AObj) → List (Key × Key)
 | [] => []
 | p :: r => cat (prs2 (tgtT.get p.1) (h.get p.1)) (uniPre tgtT h r)
noncomputable def covers (r : MRow) (v : AV) (h : Heap) : Bool := covB r v h (uni r.preT r.tgtT h 1000000 (cat (prsV 20 r.val v) (uniPre r.tgtT h r.pre)) RT.nil)
def beqE2 : List (AV × AV) → List (AV × AV) → Bool
 | [], [] => true
 | a :: x, b :: y => cond (beqA 60 a.1 b.1) (cond (beqA 60 a.2 b.2) (beqE2 x y) false) false
 | _, _ => false
def beqVs : List (List (AV × AV × Nat) × Nat) → List (List (AV × AV × Nat) × Nat) → Bool
 | [], [] => true
 | a :: x, b :: y => cond (Nat.beq a.2 b.2) (cond (beqE a.1 b.1) (beqVs x y) false) false
 | _, _ => false
def beqO3 (a b : AObj) : Bool := match a with
 | .lmap es => (match b with | .lmap es' => beqE2 es es' | _ => false)
 | .mapAlt vs => (match b with | .mapAlt vs' => beqVs vs vs' | _ => false)
 | .bits e n c => (match b with | .bits e' n' c' => cond (Nat.beq e e') (cond (Nat.beq n n') (Nat.beq c c') false) false | _ => false)
 | .bytes e n => (match b with | .bytes e' n' => cond (Nat.beq e e') (Nat.beq n n') false | _ => false)
 | a => beqO a b
def isOn {α : Type} (x : Option α) : Bool := match x with
 | some _ => true
 | none => false
noncomputable def inT (t : RT AObj) (b : Key) : Bool := isOn (t.get b)
def kindM (o : AObj) : Bool := match o with
 | .cells _ _ _ _ => true
 | .map _ _ => true
 | .lmap _ => true
 | .mapAlt _ => true
 | .bytes _ _ => true
 | .bits _ _ _ => true
 | .pack _ _ _ => true
 | _ => false
noncomputable def preOk (S : Key → Bool) (st : RT AObj) : List (Key × AObj) → Bool
 | [] => true
 | p :: r => cond (objIn S p.2) (cond (kindM p.2) (cond (isOn (st.get p.1)) false (preOk S st r)) false) false
noncomputable def nodupK : List (Key × AObj) → RT Key → Bool
 | [], _ => true
 | p :: r, t => cond (isOn (t.get p.1)) false (nodupK r (t.set p.1 p.1))
def ksL (g : AV → List Key) : List AV → List Key
 | [] => []
 | v :: r => cat (g v) (ksL g r)
def ksV : Nat → AV → List Key
 | 0, _ => []
 | d + 1, v => match v with
  | .ptr b _ => [b]
  | .slice b _ _ _ => [b]
  | .map b => [b]
  | .iface _ v => ksV d v
  | .func (.func _) a b => cat (ksL (ksV d) a) (ksL (ksV d) b)
  | .agg cs => ksL (ksV d) cs
  | .tup cs => ksL (ksV d) cs
  | .tab b _ _ => [b]
  | _ => []
def ksE : List (AV × AV × Nat) → List Key
 | [] => []
 | e :: r => cat (ksV 20 e.1) (cat (ksV 20 e.2.1) (ksE r))
def ksE2 : List (AV × AV) → List Key
 | [] => []
 | e :: r => cat (ksV 20 e.1) (cat (ksV 20 e.2) (ksE2 r))
def inL (b : Key) : List Key → Bool
 | [] => false
 | a :: r => cond (Key.same a b) true (inL b r)
def inAll (b : Key) : List (List (AV × AV × Nat) × Nat) → Bool
 | [] => true
 | v :: r => cond (inL b (ksE v.1)) (inAll b r) false
def keepAll (vs : List (List (AV × AV × Nat) × Nat)) : List Key → List Key
 | [] => []
 | b :: r => cond (inAll b vs) (b :: keepAll vs r) (keepAll vs r)
def ksA (vs : List (List (AV × AV × Nat) × Nat)) : List Key := match vs with
 | [] => []
 | v :: _ => keepAll vs (ksE v.1)
def ksO (o : AObj) : List Key := match o with
 | .cells _ cs _ _ => ksL (ksV 20) cs
 | .map es _ => ksE es
 | .lmap es => ksE2 es
 | .mapAlt vs => ksA vs
 | _ => []
noncomputable def addKs : List Key → RT Key → RT Key
 | [], t => t
 | b :: r, t => addKs r (t.set b b)
noncomputable def reachGo : List (Key × AObj) → RT Key → Bool
 | [], _ => true
 | p :: r, t => cond (isOn (t.get p.1)) (reachGo r (addKs (ksO p.2) t)) false
noncomputable def MRow.ok (P : Program) (laid : List (Nat × AObj)) (r : MRow) : Bool :=
 cond (listIn (avIn (inT r.preT) 20) r.args) (cond (preOk (inT r.preT) (startT laid P.globals.size) r.pre) (cond (nodupK r.pre RT.nil) (reachGo r.pre (addKs (ksL (ksV 20) r.args) RT.nil)) false) false) false
def altsO : List (List (AV × AV × Nat) × Nat) → List AObj
 | [] => []
 | v :: r => .map v.1 v.2 :: altsO r
def pickO (o : AObj) : List AObj := match o with
 | .mapAlt vs => altsO vs
 | o => [o]
def consAll (b : Key) (o : AObj) : List (List (Key × AObj)) → List (List (Key × AObj))
 | [] => []
 | l :: r => ((b, o) :: l) :: consAll b o r
def prodK (b : Key) (ls : List (List (Key × AObj))) : List AObj → List (List (Key × AObj))
 | [] => []
 | o :: r => cat (consAll b o ls) (prodK b ls r)
def picks : List (Key × AObj) → List (List (Key × AObj))
 | [] => [[]]
 | p :: r => prodK p.1 (picks r) (pickO p.2)
noncomputable def startM (P : Program) (laid : List (Nat × AObj)) (f : Nat) (args : List AV) (pre : List (Key × AObj)) (k : Key) : St := match bodyOf P f with
 | some c => enter P f args .normal [] (putObjs pre ⟨startT laid P.globals.size, k⟩) c
 | none => .bad "no body"
theorem putO_out : ∀ {l : List (Key × AObj)} {t : RT AObj} {b : Key}, (∀ p ∈ l, p.1 ≠ b) → (putO l t).get b = t.get b
 | [], _, _, _ => rfl
 | p :: r, t, b, h => by
  show (putO r (t.set p.2 p.1)).get b = _
  rw [putO_out fun q hq => h q (List.mem_cons_of_mem _ hq), RT.get_set_other _ _ _ _ (h p (List.mem_cons_self ..))]
theorem putO_in : ∀ {l : List (Key × AObj)} {t : RT AObj} {b : Key}, (∃ p ∈ l, p.1 = b) → ∃ o, (putO l t).get b = some o ∧ (b, o) ∈ l
 | [], _, _, ⟨_, hp, _⟩ => by cases hp
 | p :: r, t, b, h => by
  by_cases hr : ∃ q ∈ r, q.1 = b
  ·obtain ⟨o, h1, h2⟩ := putO_in (t := t.set p.2 p.1) hr
   exact ⟨o, h1, List.mem_cons_of_mem _ h2⟩
  ·have hp : p.1 = b := by
    obtain ⟨q, hq, e⟩ := h
    cases hq with
    | head => exact e
    | tail _ hq => exact absurd ⟨q, hq, e⟩ hr
   refine ⟨p.2, ?_, by rw [← hp]; exact List.mem_cons_self ..⟩
   show (putO r (t.set p.2 p.1)).get b = _
   rw [putO_out fun q hq e => hr ⟨q, hq, e⟩, ← hp, RT.get_set_same]
theorem putO_same : ∀ {l : List (Key × AObj)} {t t' : RT AObj} {b : Key}, (∃ p ∈ l, p.1 = b) → (putO l t).get b = (putO l t').get b
 | [], _, _, _, ⟨_, hp, _⟩ => by cases hp
 | p :: r, t, t', b, h => by
  show (putO r (t.set p.2 p.1)).get b = (putO r (t'.set p.2 p.1)).get b
  by_cases hr : ∃ q ∈ r, q.1 = b
  ·exact putO_same hr
  ·have hp : p.1 = b := by
    obtain ⟨q, hq, e⟩ := h
    cases hq with
    | head => exact e
    | tail _ hq => exact absurd ⟨q, hq, e⟩ hr
   rw [putO_out fun q hq e => hr ⟨q, hq, e⟩, putO_out fun q hq e => hr ⟨q, hq, e⟩, ← hp, RT.get_set_same, RT.get_set_same]
theorem putO_some {l : List (Key × AObj)} {t : RT AObj} {b : Key} {o : AObj} (h : (putO l t).get b = some o) : (b, o) ∈ l ∨ ((∀ p ∈ l, p.1 ≠ b) ∧ t.get b = some o) := by
 by_cases hb : ∃ p ∈ l, p.1 = b
 ·obtain ⟨o', h1, h2⟩ := putO_in (t := t) hb
  rw [h1] at h; injection h with h; subst h
  exact .inl h2
 ·have hb' : ∀ p ∈ l, p.1 ≠ b := fun p hp e => hb ⟨p, hp, e⟩
  rw [putO_out hb'] at h
  exact .inr ⟨hb', h⟩
theorem putO_nodup : ∀ {l : List (Key × AObj)} {t : RT AObj}, (l.map (·.1)).Nodup → ∀ p ∈ l, (putO l t).get p.1 = some p.2
 | [], _, _, p, hp => by cases hp
 | q :: r, t, hn, p, hp => by
  rw [List.map_cons, List.nodup_cons] at hn
  cases hp with
  | head =>
   show (putO r (t.set q.2 q.1)).get q.1 = _
   rw [putO_out fun x hx e => hn.1 (List.mem_map.2 ⟨x, hx, e⟩), RT.get_set_same]
  | tail _ hp => exact putO_nodup hn.2 p hp
theorem putObjs_T : ∀ (l : List (Key × AObj)) (t : RT AObj) (n : Key), putObjs l (Heap.mk t n) = Heap.mk (putO l t) n
 | [], _, _ => rfl
 | p :: r, t, n => putObjs_T r (t.set p.2 p.1) n
theorem nodupK_spec : ∀ {l : List (Key × AObj)} {t : RT Key}, nodupK l t = true → (∀ p ∈ l, t.get p.1 = none) ∧ (l.map (·.1)).Nodup
 | [], _, _ => ⟨(fun _ h => nomatch h), List.nodup_nil⟩
 | p :: r, t, h => by
  unfold nodupK at h
  cases hp : t.get p.1 with
  | some x => rw [hp] at h; cases h
  | none =>
   rw [hp] at h
   have h : nodupK r (t.set p.1 p.1) = true := h
   obtain ⟨h1, h2⟩ := nodupK_spec h
   have hne : ∀ q ∈ r, p.1 ≠ q.1 := fun q hq e => by
    have := h1 q hq
    rw [← e, RT.get_set_same] at this; cases this
   refine ⟨fun q hq => ?_, ?_⟩
   ·cases hq with
    | head => exact hp
    | tail _ hq =>
     have := h1 q hq
     rwa [RT.get_set_other _ _ _ _ (hne q hq)] at this
   ·rw [List.map_cons, List.nodup_cons]
    refine ⟨fun hm => ?_, h2⟩
    obtain ⟨q, hq, e⟩ := List.mem_map.1 hm
    exact hne q hq e.symm
theorem covAll_spec {f : Key → Option Key} {tgtT : RT AObj} {h : Heap} : ∀ {l : List (Key × AObj)}, covAll f tgtT h l = true → ∀ p ∈ l, ∃ o' b o, tgtT.get p.1 = some o' ∧ f p.1 = some b ∧ h.get b = some o ∧ mO f o' o = true
 | [], _, p, hp => by cases hp
 | q :: r, ha, p, hp => by
  unfold covAll at ha
  split at ha
  ·rename_i o' b h1 h2
   split at ha
   ·rename_i o h3
    obtain ⟨h4, h5⟩ := condB ha
    cases hp with
    | head => exact ⟨o', b, o, h1, h2, h3, h4⟩
    | tail _ hp => exact covAll_spec h5 p hp
   ·cases ha
  ·cases ha
theorem injK_spec {π : RT Key} {preT : RT AObj} : ∀ {l : List (Key × AObj)} {inv : RT Key}, injK π preT l inv = true →
  (∀ p ∈ l, preT.get p.1 = none → ∃ b, π.get p.1 = some b ∧ preT.get b = none ∧ inv.get b = none) ∧ (∀ p ∈ l, ∀ q ∈ l, preT.get p.1 = none → preT.get q.1 = none → π.get p.1 = π.get q.1 → p.1 = q.1)
 | [], _, _ => ⟨(fun _ h => nomatch h), (fun _ h => nomatch h)⟩
 | x :: r, inv, h => by
  unfold injK at h
  split at h
  ·rename_i o hx
   obtain ⟨h1, h2⟩ := injK_spec h
   refine ⟨fun p hp hn => ?_, fun p hp q hq hn hm e => ?_⟩
   ·cases hp with
    | head => rw [hx] at hn; cases hn
    | tail _ hp => exact h1 p hp hn
   ·cases hp with
    | head => rw [hx] at hn; cases hn
    | tail _ hp => cases hq with
     | head => rw [hx] at hm; cases hm
     | tail _ hq => exact h2 p hp q hq hn hm e
  ·rename_i hx
   split at h
   ·cases h
   ·rename_i b hb
    split at h
    ·rename_i hp1 hi1
     obtain ⟨h1, h2⟩ := injK_spec h
     have hne : ∀ p ∈ r, preT.get p.1 = none → π.get p.1 ≠ some b := fun p hp hn e => by
      obtain ⟨b', e1, _, e3⟩ := h1 p hp hn
      rw [e] at e1; injection e1 with e1; subst e1
      rw [RT.get_set_same] at e3; cases e3
     refine ⟨fun p hp hn => ?_, fun p hp q hq hn hm e => ?_⟩
     ·cases hp with
      | head => exact ⟨b, hb, hp1, hi1⟩
      | tail _ hp =>
       obtain ⟨b', e1, e2, e3⟩ := h1 p hp hn
       have : b ≠ b' := fun e => hne p hp hn (by rw [e1, e])
       exact ⟨b', e1, e2, by rwa [RT.get_set_other _ _ _ _ this] at e3⟩
     ·cases hp with
      | head => cases hq with
       | head => rfl
       | tail _ hq => exact absurd (e.symm.trans hb) (hne q hq hm)
      | tail _ hp => cases hq with
       | head => exact absurd (e.trans hb) (hne p hp hn)
       | tail _ hq => exact h2 p hp q hq hn hm e
    ·cases h
section
variable {ρ : Rho}
theorem ksL_rel {g : AV → List Key} (hg : ∀ v V, Rel ρ v V → ∀ b ∈ g v, ∃ L, ρ b = some L) : ∀ {l : List AV} {L : List Value}, RelL ρ l L → ∀ b ∈ ksL g l, ∃ L, ρ b = some L
 | _, _, .nil, b, hb => by cases hb
 | _, _, .cons v V r R hv hr, b, hb => by
  rw [show ksL g (v :: r) = cat (g v) (ksL g r) from rfl, cat_eq] at hb
  rcases List.mem_append.1 hb with h1 | h1
  ·exact hg v V hv b h1
  ·exact ksL_rel hg hr b h1
theorem ksV_rel : ∀ (d : Nat) (v : AV) (V : Value), Rel ρ v V → ∀ b ∈ ksV d v, ∃ L, ρ b = some L
 | 0, _, _, _, b, hb => by cases hb
 | d + 1, v, V, hr, b, hb => by
  have ih := ksV_rel d
  cases hr with
  | ptr a o L e => obtain rfl : b = a := by simpa [ksV] using hb
                   exact ⟨L, e⟩
  | sliceIs a o l c L e => obtain rfl : b = a := by simpa [ksV] using hb
                           exact ⟨L, e⟩
  | sliceMore a o l c sz L e _ _ => obtain rfl : b = a := by simpa [ksV] using hb
                                    exact ⟨L, e⟩
  | map a L e => obtain rfl : b = a := by simpa [ksV] using hb
                 exact ⟨L, e⟩
  | iface t v V h => exact ih v V h b hb
  | func f x y X Y hx hy =>
   rw [show ksV (d + 1) (.func (.func f) x y) = cat (ksL (ksV d) x) (ksL (ksV d) y) from rfl, cat_eq] at hb
   rcases List.mem_append.1 hb with h1 | h1
   ·exact ksL_rel ih hx b h1
   ·exact ksL_rel ih hy b h1
  | agg x X hx => exact ksL_rel ih hx b hb
  | tup x X hx => exact ksL_rel ih hx b hb
  | tab a ds vs L V e _ _ => obtain rfl : b = a := by simpa [ksV] using hb
                             exact ⟨L, e⟩
  | _ => cases hb
theorem ksE_rel : ∀ {es : List (AV × AV × Nat)} {E : List MapEntry}, ERel ρ es E → ∀ b ∈ ksE es, ∃ L, ρ b = some L
 | _, _, .nil, b, hb => by cases hb
 | _, _, .cons k v K V c r R hk hv hr, b, hb => by
  rw [show ksE ((k, v, c) :: r) = cat (ksV 20 k) (cat (ksV 20 v) (ksE r)) from rfl, cat_eq, cat_eq] at hb
  rcases List.mem_append.1 hb with h1 | h1
  ·exact ksV_rel 20 k K hk b h1
  ·rcases List.mem_append.1 h1 with h1 | h1
   ·exact ksV_rel 20 v V hv b h1
   ·exact ksE_rel hr b h1
theorem ksE2_mem : ∀ {es : List (AV × AV)} {b : Key}, b ∈ ksE2 es → ∃ e ∈ es, b ∈ ksV 20 e.1 ∨ b ∈ ksV 20 e.2
 | [], _, hb => by cases hb
 | e :: r, b, hb => by
  rw [show ksE2 (e :: r) = cat (ksV 20 e.1) (cat (ksV 20 e.2) (ksE2 r)) from rfl, cat_eq, cat_eq] at hb
  rcases List.mem_append.1 hb with h1 | h1
  ·exact ⟨e, List.mem_cons_self .., .inl h1⟩
  ·rcases List.mem_append.1 h1 with h1 | h1
   ·exact ⟨e, List.mem_cons_self .., .inr h1⟩
   ·obtain ⟨x, hx, h2⟩ := ksE2_mem h1
    exact ⟨x, List.mem_cons_of_mem _ hx, h2⟩
theorem erel_mem : ∀ {es : List (AV × AV × Nat)} {E : List MapEntry}, ERel ρ es E → ∀ e ∈ es, ∃ K V, Rel ρ e.1 K ∧ Rel ρ e.2.1 V
 | _, _, .nil, e, he => by cases he
 | _, _, .cons k v K V c r R hk hv hr, e, he => by
  cases he with
  | head => exact ⟨K, V, hk, hv⟩
  | tail _ he => exact erel_mem hr e he
theorem inL_mem {b : Key} : ∀ {l : List Key}, inL b l = true → b ∈ l
 | [], h => by cases h
 | a :: r, h => by
  unfold inL at h
  cases hs : Key.same a b with
  | true => rw [(Key.same_iff _ _).1 hs]; exact List.mem_cons_self ..
  | false => rw [hs] at h; exact List.mem_cons_of_mem _ (inL_mem (l := r) h)
theorem inAll_mem {b : Key} : ∀ {vs : List (List (AV × AV × Nat) × Nat)}, inAll b vs = true → ∀ v ∈ vs, b ∈ ksE v.1
 | [], _, v, hv => by cases hv
 | x :: r, h, v, hv => by
  unfold inAll at h
  obtain ⟨h1, h2⟩ := condB h
  cases hv with
  | head => exact inL_mem h1
  | tail _ hv => exact inAll_mem h2 v hv
theorem keepAll_mem {vs : List (List (AV × AV × Nat) × Nat)} {b : Key} : ∀ {l : List Key}, b ∈ keepAll vs l → inAll b vs = true
 | [], h => by cases h
 | a :: r, h => by
  unfold keepAll at h
  cases hc : inAll a vs with
  | true =>
   rw [hc] at h
   cases h with
   | head => exact hc
   | tail _ h => exact keepAll_mem h
  | false => rw [hc] at h; exact keepAll_mem (l := r) h
theorem ksO_rel {N : Nat → Prop} {L : Loc} {O : Option Obj} {o : AObj} (h : ObjRel N ρ L O o) : ∀ b ∈ ksO o, ∃ L, ρ b = some L := by
 intro b hb
 cases o with
 | cells e cs opn fz => obtain ⟨_, C, q, _, _, _, ⟨_, h1⟩, _⟩ := h; exact ksL_rel (ksV_rel 20) h1 b hb
 | map es c => obtain ⟨_, E, _, h1⟩ := h; exact ksE_rel h1 b hb
 | lmap es =>
  obtain ⟨_, E, c, _, ⟨es', hp, he⟩, _⟩ := h
  obtain ⟨x, hx, h2⟩ := ksE2_mem hb
  obtain ⟨y, hy, e1⟩ := List.mem_map.1 (hp.mem_iff.2 hx)
  obtain ⟨K, V, r1, r2⟩ := erel_mem he y hy
  subst e1
  rcases h2 with h2 | h2
  ·exact ksV_rel 20 _ K r1 b h2
  ·exact ksV_rel 20 _ V r2 b h2
 | mapAlt vs =>
  obtain ⟨_, v, hv, E, _, h1⟩ := h
  cases vs with
  | nil => cases hb
  | cons x r => exact ksE_rel h1 b (inAll_mem (keepAll_mem hb) v hv)
 | _ => cases hb
theorem addKs_get : ∀ {l : List Key} {t : RT Key} {b : Key}, isOn ((addKs l t).get b) = true → b ∈ l ∨ isOn (t.get b) = true
 | [], _, _, h => .inr h
 | a :: r, t, b, h => by
  rcases addKs_get (l := r) (t := t.set a a) h with h1 | h1
  ·exact .inl (List.mem_cons_of_mem _ h1)
  ·by_cases e : a = b
   ·exact .inl (by rw [e]; exact List.mem_cons_self ..)
   ·rw [RT.get_set_other _ _ _ _ e] at h1; exact .inr h1
theorem reachGo_spec : ∀ {l : List (Key × AObj)} {t : RT Key}, reachGo l t = true → (∀ b, isOn (t.get b) = true → ∃ L, ρ b = some L) → (∀ p ∈ l, (∃ L, ρ p.1 = some L) → ∀ b ∈ ksO p.2, ∃ L, ρ b = some L) → ∀ p ∈ l, ∃ L, ρ p.1 = some L
 | [], _, _, _, _, p, hp => by cases hp
 | q :: r, t, h, ht, hl, p, hp => by
  unfold reachGo at h
  obtain ⟨h1, h2⟩ := condB h
  have hq := ht _ h1
  cases hp with
  | head => exact hq
  | tail _ hp =>
   refine reachGo_spec h2 (fun b hb => ?_) (fun x hx => hl x (List.mem_cons_of_mem _ hx)) p hp
   rcases addKs_get hb with h3 | h3
   ·exact hl q (List.mem_cons_self ..) hq b h3
   ·exact ht b h3
end
end Go.VM
namespace Go.VM
theorem ObjRel.weak {N N' : Nat → Prop} (hN : ∀ k, N' k → N k) {ρ : Rho} {L : Loc} {O : Option Obj} {o : AObj} (h : ObjRel N ρ L O o) : ObjRel N' ρ L O o := by
 cases o with
 | fixed e cs => exact h
 | dead => trivial
 | dom ds => exact h
 | ivl lo hi => exact h
 | cells e cs a b => exact ⟨fun e => h.1 (hN _ e), h.2⟩
 | map es c => exact ⟨fun e => h.1 (hN _ e), h.2⟩
 | siter a b c => exact ⟨fun e => h.1 (hN _ e), h.2⟩
 | miter a b c d => exact ⟨fun e => h.1 (hN _ e), h.2⟩
 | loop a b c d e f g i => exact ⟨fun e => h.1 (hN _ e), h.2⟩
 | deferred ds => exact ⟨fun e => h.1 (hN _ e), h.2⟩
 | pack a b c => exact ⟨fun e => h.1 (hN _ e), h.2⟩
 | packo a b c d => exact (let ⟨t', ha, h1, h2⟩ := h; ⟨t', ha, fun e => h1 (hN _ e), h2⟩)
 | lmap es => exact ⟨fun e => h.1 (hN _ e), h.2⟩
 | mapAlt vs => exact ⟨fun e => h.1 (hN _ e), h.2⟩
 | bytes e n => exact ⟨fun e => h.1 (hN _ e), h.2⟩
 | rowG v b => exact h
 | bits a b c => exact ⟨fun e => h.1 (hN _ e), h.2⟩
 | smap es c => exact ⟨fun e => h.1 (hN _ e), h.2⟩
 | smiter m a b c => exact ⟨fun e => h.1 (hN _ e), h.2⟩
 | umap m l n => exact ⟨fun e => h.1 (hN _ e), h.2⟩
theorem kindM_free {N : Nat → Prop} {ρ : Rho} {L : Loc} {O : Option Obj} {o : AObj} (hk : kindM o = true) (h : ObjRel N ρ L O o) : ¬ N L.B := by
 cases o <;> first | exact h.1 | cases hk
theorem kindM_live {o : AObj} (hk : kindM o = true) : o.live = true := by
 cases o <;> first | rfl | cases hk
theorem ObjRel.refit {N N' : Nat → Prop} {ρ ρ' : Rho} {S : Key → Bool} {L : Loc} {O : Option Obj} {o : AObj} (hk : kindM o = true) (hN : ¬ N' L.B) (hS : ∀ b L, S b = true → ρ b = some L → ρ' b = some L) (ho : objIn S o = true) (h : ObjRel N ρ L O o) : ObjRel N' ρ' L O o := by
 have h1 := (ObjRel.within (N := N) (N' := fun _ => False) (fun _ e => e.elim) hS ho h).1
 cases o <;> first | exact ⟨hN, h1.2⟩ | cases hk
theorem altsO_mem : ∀ {vs : List (List (AV × AV × Nat) × Nat)} {v : List (AV × AV × Nat) × Nat}, v ∈ vs → AObj.map v.1 v.2 ∈ altsO vs
 | x :: r, v, h => by
  cases h with
  | head => exact List.mem_cons_self ..
  | tail _ h => exact List.mem_cons_of_mem _ (altsO_mem h)
theorem consAll_mem {b : Key} {o : AObj} : ∀ {ls : List (List (Key × AObj))} {l : List (Key × AObj)}, l ∈ ls → (b, o) :: l ∈ consAll b o ls
 | x :: r, l, h => by
  cases h with
  | head => exact List.mem_cons_self ..
  | tail _ h => exact List.mem_cons_of_mem _ (consAll_mem h)
theorem prodK_mem {b : Key} {ls : List (List (Key × AObj))} {l : List (Key × AObj)} (hl : l ∈ ls) {os : List AObj} {o : AObj} (h : o ∈ os) : (b, o) :: l ∈ prodK b ls os := by
 induction os with
 | nil => cases h
 | cons x r ih =>
  unfold prodK
  rw [cat_eq]
  cases h with
  | head => exact List.mem_append_left _ (consAll_mem hl)
  | tail _ h => exact List.mem_append_right _ (ih h)
theorem picks_ok {Q : Key → AObj → Prop} (hQ : ∀ b vs, Q b (.mapAlt vs) → ∃ v, v ∈ vs ∧ Q b (.map v.1 v.2)) : ∀ {l : List (Key × AObj)}, (∀ p ∈ l, Q p.1 p.2) → ∃ c, c ∈ picks l ∧ c.map (·.1) = l.map (·.1) ∧ ∀ p ∈ c, Q p.1 p.2
 | [], _ => ⟨[], List.mem_cons_self .., rfl, fun _ h => by cases h⟩
 | (b, o) :: r, h => by
  obtain ⟨c, hc, hk, hq⟩ := picks_ok hQ (l := r) fun p hp => h p (List.mem_cons_of_mem _ hp)
  have hb : Q b o := h (b, o) (List.mem_cons_self ..)
  have fin : ∀ o', o' ∈ pickO o → Q b o' → ∃ c, c ∈ picks ((b, o) :: r) ∧ c.map (·.1) = ((b, o) :: r).map (·.1) ∧ ∀ p ∈ c, Q p.1 p.2 := fun o' ho' hq' =>
   ⟨(b, o') :: c, prodK_mem hc ho', by simp [hk], fun p hp => by
     cases hp with
     | head => exact hq'
     | tail _ hp => exact hq p hp⟩
  cases o with
  | mapAlt vs =>
   obtain ⟨v, hv, hq'⟩ := hQ b vs hb
   exact fin _ (altsO_mem hv) hq'
  | _ => exact fin _ (List.mem_cons_self ..) hb
theorem trk_some {preT tgtT : RT AObj} {π : RT Key} {a b : Key} (h : trk preT tgtT π a = some b) : (∃ o, tgtT.get a = some o) ∧ (((∃ o, preT.get a = some o) ∧ b = a) ∨ (preT.get a = none ∧ π.get a = some b)) := by
 unfold trk at h
 split at h
 ·cases h
 ·rename_i o ho
  refine ⟨⟨o, ho⟩, ?_⟩
  split at h
  ·rename_i o2 h2
   injection h with h
   exact .inl ⟨⟨o2, h2⟩, h.symm⟩
  ·rename_i h2
   exact .inr ⟨h2, h⟩
section
variable [H : Hook] {P : Program}
end
end Go.VM
namespace Go.VM
section
variable [H : Hook] {P : Program}
end
end Go.VM
namespace Go.VM
section
variable {α β : Type}
noncomputable def mo0 (g : α → (α → β) → β) (k : N8 α → β) (a0 a1 a2 a3 a4 a5 a6 a7 : α) : β := g a0 (fun y => k ⟨y, a1, a2, a3, a4, a5, a6, a7⟩)
noncomputable def mo1 (g : α → (α → β) → β) (k : N8 α → β) (a0 a1 a2 a3 a4 a5 a6 a7 : α) : β := g a1 (fun y => k ⟨a0, y, a2, a3, a4, a5, a6, a7⟩)
noncomputable def mo2 (g : α → (α → β) → β) (k : N8 α → β) (a0 a1 a2 a3 a4 a5 a6 a7 : α) : β := g a2 (fun y => k ⟨a0, a1, y, a3, a4, a5, a6, a7⟩)
noncomputable def mo3 (g : α → (α → β) → β) (k : N8 α → β) (a0 a1 a2 a3 a4 a5 a6 a7 : α) : β := g a3 (fun y => k ⟨a0, a1, a2, y, a4, a5, a6, a7⟩)
noncomputable def mo4 (g : α → (α → β) → β) (k : N8 α → β) (a0 a1 a2 a3 a4 a5 a6 a7 : α) : β := g a4 (fun y => k ⟨a0, a1, a2, a3, y, a5, a6, a7⟩)
noncomputable def mo5 (g : α → (α → β) → β) (k : N8 α → β) (a0 a1 a2 a3 a4 a5 a6 a7 : α) : β := g a5 (fun y => k ⟨a0, a1, a2, a3, a4, y, a6, a7⟩)
noncomputable def mo6 (g : α → (α → β) → β) (k : N8 α → β) (a0 a1 a2 a3 a4 a5 a6 a7 : α) : β := g a6 (fun y => k ⟨a0, a1, a2, a3, a4, a5, y, a7⟩)
noncomputable def mo7 (g : α → (α → β) → β) (k : N8 α → β) (a0 a1 a2 a3 a4 a5 a6 a7 : α) : β := g a7 (fun y => k ⟨a0, a1, a2, a3, a4, a5, a6, y⟩)
noncomputable def modN (d : D8) (g : α → (α → β) → β) (x : N8 α) (k : N8 α → β) : β := N8.rec (motive := fun _ => β) (fun a0 a1 a2 a3 a4 a5 a6 a7 => D8.rec (motive := fun _ => β) (mo0 g k a0 a1 a2 a3 a4 a5 a6 a7) (mo1 g k a0 a1 a2 a3 a4 a5 a6 a7) (mo2 g k a0 a1 a2 a3 a4 a5 a6 a7) (mo3 g k a0 a1 a2 a3 a4 a5 a6 a7) (mo4 g k a0 a1 a2 a3 a4 a5 a6 a7) (mo5 g k a0 a1 a2 a3 a4 a5 a6 a7) (mo6 g k a0 a1 a2 a3 a4 a5 a6 a7) (mo7 g k a0 a1 a2 a3 a4 a5 a6 a7) d) x
theorem modN_eq {g : α → (α → β) → β} {f : α → α} (hg : ∀ a k, g a k = k (f a)) (d : D8) (x : N8 α) (k : N8 α → β) : modN d g x k = k ((upd d).f f x) := by
 obtain ⟨a0, a1, a2, a3, a4, a5, a6, a7⟩ := x
 cases d <;> (show g _ _ = _; rw [hg]; rfl)
noncomputable def leafK (o : Option α) (_ : Option α) (k : Option α → β) : β := k o
noncomputable def setK5 (o : Option α) (a b c d e : D8) (t : RT5 α) (k : RT5 α → β) : β := modN e (modN d (modN c (modN b (modN a (leafK o))))) t k
theorem setK5_eq (o : Option α) (a b c d e : D8) (t : RT5 α) (k : RT5 α → β) : setK5 o a b c d e t k = k (RT.setD o a b c d e t) :=
 modN_eq (modN_eq (modN_eq (modN_eq (modN_eq (fun _ _ => rfl) a) b) c) d) e t k
end
section
variable {β : Type}
noncomputable def putK1 (o : AObj) (b : Key) (h : Heap) (k : Heap → β) : β := Heap.rec (motive := fun _ => β) (fun t n => RT.rec (motive := fun _ => β) (fun t => Key.rec (motive := fun _ => β) (fun a b c d e => setK5 (some o) a b c d e t (fun t => k ⟨⟨t⟩, n⟩)) b) t) h
theorem putK1_eq (o : AObj) (b : Key) (h : Heap) (k : Heap → β) : putK1 o b h k = k (h.put b o) := by
 obtain ⟨⟨t⟩, n⟩ := h
 obtain ⟨a, b, c, d, e⟩ := b
 exact setK5_eq (some o) a b c d e t _
end
section
variable {P : Program} {w0 : Base} {f : Nat} {rows : List MRow}
end
end Go.VM
namespace Go.VM
structure IndexAt (P : Program) (w0 : Base) (f : Nat) : Prop where
 at_ : ∀ (b off n c : Nat) (zs : List Bool) (x : Bool) (w : World), w0.w.heap.size ≤ w.heap.size → n ≤ zs.length → n ≤ 9223372036854775807 → (∀ j, j < zs.length → w.cell? ⟨b, off + j, none⟩ = some (.bool zs[j]!)) →
  Calls P f #[.slice (some ⟨b, off, none⟩) n c, .bool x] w fun e w' => e = .returned (.int .i64 (Lib.idxBy (fun x y => x == y) (zs.take n) x)) ∧ w' = w
def idxGo (x : Bool) : Nat → Nat → Nat → Option Nat
 | 0, _, _ => none
 | n + 1, i, c => cond (Bool.xor (bitAt c 0) x) (idxGo x n (Nat.succ i) (Nat.shiftRight c 1)) (some i)
noncomputable def idxRes (o : Option Nat) (h : Heap) : Option (AV × Heap) := match o with
 | some i => forceN i fun i => some (.int .i64 (Int.ofNat i), h)
 | none => none
noncomputable def indexIn (x : Bool) (len : Nat) (h : Heap) (o : Option AObj) : Option (AV × Heap) := match o with
 | some (.bits _ n c) => cond (and (Nat.ble len n) (Nat.ble len 1000000)) (idxRes (idxGo x len 0 c) h) none
 | _ => none
noncomputable def indexBits (args : List AV) (h : Heap) : Option (AV × Heap) := match args with
 | [.slice b 0 len (.is _), .bool x] => indexIn x len h (h.get b)
 | _ => none
def boolsOf : Nat → Nat → List Bool
 | 0, _ => []
 | n + 1, c => bitAt c 0 :: boolsOf n (Nat.shiftRight c 1)
theorem boolsOf_len : ∀ n c : Nat, (boolsOf n c).length = n
 | 0, _ => rfl
 | n + 1, c => by simp [boolsOf, boolsOf_len n]
theorem boolsOf_get : ∀ (n c i : Nat), i < n → (boolsOf n c)[i]? = some (bitAt c i)
 | 0, _, _, h => absurd h (Nat.not_lt_zero _)
 | n + 1, c, 0, _ => rfl
 | n + 1, c, i + 1, h => by
  show (boolsOf n (Nat.shiftRight c 1))[i]? = _
  rw [boolsOf_get n _ i (by omega), bitAt_succ]
theorem boolsOf_take : ∀ (n m c : Nat), m ≤ n → (boolsOf n c).take m = boolsOf m c
 | n, 0, c, _ => by simp [boolsOf]
 | 0, m + 1, c, h => absurd h (Nat.not_succ_le_zero _)
 | n + 1, m + 1, c, h => by
  show bitAt c 0 :: (boolsOf n (Nat.shiftRight c 1)).take m = bitAt c 0 :: boolsOf m (Nat.shiftRight c 1)
  rw [boolsOf_take n m _ (by omega)]
theorem idxGo_by (x : Bool) : ∀ (n i c k : Nat), idxGo x n i c = some k → Lib.idxByFrom (fun x y => x == y) x (boolsOf n c) i = (k : Int)
 | 0, _, _, _, h => by cases h
 | n + 1, i, c, k, h => by
  have h : cond (Bool.xor (bitAt c 0) x) (idxGo x n (Nat.succ i) (Nat.shiftRight c 1)) (some i) = some k := h
  show (if (x == bitAt c 0) = true then (i : Int) else Lib.idxByFrom (fun x y => x == y) x (boolsOf n (Nat.shiftRight c 1)) (i + 1)) = _
  cases hb : Bool.xor (bitAt c 0) x with
  | true =>
   rw [hb] at h
   have hne : (x == bitAt c 0) = false := by revert hb; cases bitAt c 0 <;> cases x <;> simp
   rw [hne, if_neg (by simp)]
   exact idxGo_by x n (i + 1) _ k h
  | false =>
   rw [hb] at h
   have h : some i = some k := h
   injection h with h; subst h
   have he : (x == bitAt c 0) = true := by revert hb; cases bitAt c 0 <;> cases x <;> simp
   rw [he, if_pos rfl]
theorem indexBits_ok {P : Program} {w0 : Base} {f : Nat} (hc : IndexAt P w0 f) : PrimOk P w0 f indexBits := by
 intro ρ h w args A v h' hs hr he
 unfold indexBits at he
 split at he
 ·rename_i b len cp x
  cases hr with
  | cons _ V _ R hv hr =>
  cases hr with
  | cons _ X _ R hx hr =>
  cases hr
  cases hv with
  | sliceIs _ _ _ _ L hb =>
  cases hx
  unfold indexIn at he
  split at he
  ·rename_i e n c hg
   cases hle : and (Nat.ble len n) (Nat.ble len 1000000) with
   | false => rw [hle] at he; cases he
   | true =>
    rw [hle, cond_true] at he
    simp only [Bool.and_eq_true] at hle
    have hmax := Nat.le_of_ble_eq_true hle.2
    have hle := Nat.le_of_ble_eq_true hle.1
    unfold idxRes at he
    split at he
    ·rename_i i hi
     rw [forceN_eq] at he
     injection he with he; injection he with h1 h2; subst h1; subst h2
     obtain ⟨o, ho, hlt, hobj⟩ := hs.obj b L hb
     rw [hg] at ho; cases ho
     obtain ⟨_, C, q, hO, hsz, _, ⟨_, hcr⟩, hbase, _⟩ := hobj
     obtain ⟨hb0, htot⟩ := hbase rfl
     rw [hb0] at hcr
     have hcell : ∀ j, j < (boolsOf len c).length → w.cell? ⟨L.B, 0 + j, none⟩ = some (.bool (boolsOf len c)[j]!) := by
      intro j hj
      rw [boolsOf_len] at hj
      obtain ⟨V, hV, hrel⟩ := RelL.get? j hcr (bitsOf_get n c j (by omega))
      cases hrel
      rw [List.drop_zero, List.getElem?_take, if_pos (by rw [bitsOf_len]; omega), Array.getElem?_toList] at hV
      have : (boolsOf len c)[j]! = bitAt c j := by
       rw [List.getElem!_eq_getElem?_getD, boolsOf_get len c j hj]; rfl
      rw [this, Nat.zero_add]
      simp [World.cell?, hO, hV]
     have hcall := hc.at_ L.B 0 len cp (boolsOf len c) x w hs.size (by rw [boolsOf_len]; exact Nat.le_refl _) (by omega) hcell
     have harr : (⟨[.slice (some ⟨L.B, L.base + 0, none⟩) len cp, .bool x]⟩ : Array Value) = #[.slice (some ⟨L.B, 0, none⟩) len cp, .bool x] := by rw [hb0]
     rw [harr]
     refine hcall.mono ?_
     rintro e w' ⟨rfl, rfl⟩
     refine ⟨ρ, _, rfl, Sub.refl _, Kept.refl _ _, ?_, hs⟩
     have hx : Lib.idxBy (fun x y => x == y) ((boolsOf len c).take len) x = (i : Int) := by
      rw [boolsOf_take len len c (Nat.le_refl _)]
      exact idxGo_by x len 0 c i hi
     rw [hx]
     exact .int .i64 _
    ·cases he
  ·cases he
 ·cases he
end Go.VM
namespace Go.VM
def sV (f : Key → Option Key) : Nat → AV → AV → Bool
 | 0, _, _ => false
 | d + 1, x, y => match x with
  | .junk => (match y with | .junk => true | _ => false)
  | .ustr l => (match y with | .ustr m => Nat.beq l m | _ => false)
  | .bool a => (match y with | .bool b => a == b | _ => false)
  | .int k a => (match y with | .int k' b => cond (Nat.beq (kindNo k) (kindNo k')) (intEq a b) false | _ => false)
  | .float .f64 a => (match y with | .float .f64 b => Nat.beq a b | _ => false)
  | .str l a => (match y with | .str m b => cond (Nat.beq l m) (Nat.beq a b) false | _ => false)
  | .nilPtr => (match y with | .nilPtr => true | _ => false)
  | .ptr a o => (match y with | .ptr b q => cond (isK (f a) b) (Nat.beq o q) false | _ => false)
  | .nilSlice => (match y with | .nilSlice => true | _ => false)
  | .emptyS => (match y with | .emptyS => true | _ => false)
  | .slice a o l c => (match y with | .slice b q m e => cond (isK (f a) b) (cond (Nat.beq o q) (cond (Nat.beq l m) (beqCap c e) false) false) false | _ => false)
  | .nilMap => (match y with | .nilMap => true | _ => false)
  | .map a => (match y with | .map b => isK (f a) b | _ => false)
  | .nilFunc => (match y with | .nilFunc => true | _ => false)
  | .nilIface => (match y with | .nilIface => true | _ => false)
  | .iface t a => (match y with | .iface u b => cond (Nat.beq t u) (sV f d a b) false | _ => false)
  | .func (.func g) a b => (match y with | .func (.func g') x' y' => cond (Nat.beq g g') (cond (mLs (sV f d) a x') (mLs (sV f d) b y') false) false | _ => false)
  | .agg a => (match y with | .agg b => mLs (sV f d) a b | _ => false)
  | .tup a => (match y with | .tup b => mLs (sV f d) a b | _ => false)
  | .undef => (match y with | .undef => true | _ => false)
  | .tab a ds vs => (match y with | .tab b es us => cond (isK (f a) b) (cond (eqNs ds es) (eqVs vs us) false) false | _ => false)
  | _ => false
def sEs (f : Key → Option Key) : List (AV × AV × Nat) → List (AV × AV × Nat) → Bool
 | [], [] => true
 | a :: x, b :: y => cond (sV f 20 a.1 b.1) (cond (sV f 20 a.2.1 b.2.1) (cond (Nat.beq a.2.2 b.2.2) (sEs f x y) false) false) false
 | _, _ => false
def sE2 (f : Key → Option Key) : List (AV × AV) → List (AV × AV) → Bool
 | [], [] => true
 | a :: x, b :: y => cond (sV f 20 a.1 b.1) (cond (sV f 20 a.2 b.2) (sE2 f x y) false) false
 | _, _ => false
def sVs (f : Key → Option Key) : List (List (AV × AV × Nat) × Nat) → List (List (AV × AV × Nat) × Nat) → Bool
 | [], [] => true
 | a :: x, b :: y => cond (Nat.beq a.2 b.2) (cond (sEs f a.1 b.1) (sVs f x y) false) false
 | _, _ => false
noncomputable def sO (f : Key → Option Key) (o' o : AObj) : Bool := match o' with
 | .cells e cs opn fz => (match o with | .cells e2 cs2 opn2 fz2 => cond (Nat.beq e e2) (cond (beqB opn opn2) (cond (Nat.beq fz fz2) (mLs (sV f 20) cs cs2) false) false) false | _ => false)
 | .map es c => (match o with | .map es2 c2 => cond (Nat.beq c c2) (sEs f es es2) false | _ => false)
 | .lmap es => (match o with | .lmap es2 => sE2 f es es2 | _ => false)
 | .mapAlt vs => (match o with | .mapAlt vs2 => sVs f vs vs2 | _ => false)
 | .bits e n c => (match o with | .bits e2 n2 c2 => cond (Nat.beq e e2) (cond (Nat.beq n n2) (Nat.beq c c2) false) false | _ => false)
 | .bytes e n => (match o with | .bytes e2 n2 => cond (Nat.beq e e2) (Nat.beq n n2) false | _ => false)
 | .pack e n t => (match o with | .pack e2 n2 t2 => cond (Nat.beq e e2) (cond (Nat.beq n n2) (eqRN t t2) false) false | _ => false)
 | _ => false
def rL (g : AV → AV) : List AV → List AV
 | [] => []
 | v :: r => g v :: rL g r
def rV (t : Key → Key) : Nat → AV → AV
 | 0, _ => .junk
 | d + 1, v => match v with
  | .ustr l => .ustr l
  | .bool a => .bool a
  | .int k a => .int k a
  | .float .f64 a => .float .f64 a
  | .str l a => .str l a
  | .nilPtr => .nilPtr
  | .ptr a o => .ptr (t a) o
  | .nilSlice => .nilSlice
  | .emptyS => .emptyS
  | .slice a o l c => .slice (t a) o l c
  | .nilMap => .nilMap
  | .map a => .map (t a)
  | .nilFunc => .nilFunc
  | .nilIface => .nilIface
  | .iface u a => .iface u (rV t d a)
  | .func (.func g) a b => .func (.func g) (rL (rV t d) a) (rL (rV t d) b)
  | .agg a => .agg (rL (rV t d) a)
  | .tup a => .tup (rL (rV t d) a)
  | .undef => .undef
  | .tab b ds vs => .tab (t b) ds vs
  | _ => .junk
def rEs (t : Key → Key) : List (AV × AV × Nat) → List (AV × AV × Nat)
 | [] => []
 | a :: x => (rV t 20 a.1, rV t 20 a.2.1, a.2.2) :: rEs t x
def rE2 (t : Key → Key) : List (AV × AV) → List (AV × AV)
 | [] => []
 | a :: x => (rV t 20 a.1, rV t 20 a.2) :: rE2 t x
def rVs (t : Key → Key) : List (List (AV × AV × Nat) × Nat) → List (List (AV × AV × Nat) × Nat)
 | [] => []
 | a :: x => (rEs t a.1, a.2) :: rVs t x
def rO (t : Key → Key) (o : AObj) : AObj := match o with
 | .cells e cs opn fz => .cells e (rL (rV t 20) cs) opn fz
 | .map es c => .map (rEs t es) c
 | .lmap es => .lmap (rE2 t es)
 | .mapAlt vs => .mapAlt (rVs t vs)
 | .bits e n c => .bits e n c
 | .bytes e n => .bytes e n
 | .pack e n t => .pack e n t
 | _ => .dead
section
variable {f : Key → Option Key} {t : Key → Key} {ρ ρ' : Rho}
theorem rL_len {g : AV → AV} : ∀ {x : List AV}, (rL g x).length = x.length
 | [] => rfl
 | _ :: x => by show (rL g x).length + 1 = _; rw [rL_len]; rfl
theorem mLs_rL {g : AV → AV → Bool} {q : AV → AV} (hg : ∀ x y, g x y = true → y = q x) : ∀ {x y : List AV}, mLs g x y = true → y = rL q x
 | [], [], _ => rfl
 | a :: x, b :: y, h => by
  unfold mLs at h
  obtain ⟨h1, h2⟩ := condB h
  show b :: y = q a :: rL q x
  rw [← hg a b h1, ← mLs_rL hg h2]
 | [], _ :: _, h => by cases h
 | _ :: _, [], h => by cases h
theorem sV_eq (ht : ∀ a b, f a = some b → t a = b) : ∀ (d : Nat) (x y : AV), sV f d x y = true → y = rV t d x
 | 0, _, _, h => by cases h
 | d + 1, x, y, h => by
  have ih := sV_eq ht d
  have hl : ∀ {x y : List AV}, mLs (sV f d) x y = true → y = rL (rV t d) x := fun h => mLs_rL ih h
  unfold sV at h
  split at h
  ·split at h <;> first | rfl | cases h
  ·split at h
   ·rw [Nat.eq_of_beq_eq_true h]; rfl
   ·cases h
  ·split at h
   ·obtain rfl : _ = _ := by simpa using h
    rfl
   ·cases h
  ·split at h
   ·obtain ⟨h1, h2⟩ := condB h
    rw [kindNo_inj h1, (intEq_iff _ _).1 h2]; rfl
   ·cases h
  ·split at h
   ·rw [Nat.eq_of_beq_eq_true h]; rfl
   ·cases h
  ·split at h
   ·obtain ⟨h1, h2⟩ := condB h
    rw [Nat.eq_of_beq_eq_true h1, Nat.eq_of_beq_eq_true h2]; rfl
   ·cases h
  ·split at h <;> first | rfl | cases h
  ·split at h
   ·obtain ⟨h1, h2⟩ := condB h
    rw [Nat.eq_of_beq_eq_true h2, ← ht _ _ (isK_is h1)]; rfl
   ·cases h
  ·split at h <;> first | rfl | cases h
  ·split at h <;> first | rfl | cases h
  ·split at h
   ·obtain ⟨h1, h⟩ := condB h
    obtain ⟨h2, h⟩ := condB h
    obtain ⟨h3, h4⟩ := condB h
    rw [Nat.eq_of_beq_eq_true h2, Nat.eq_of_beq_eq_true h3, beqCap_eq h4, ← ht _ _ (isK_is h1)]; rfl
   ·cases h
  ·split at h <;> first | rfl | cases h
  ·split at h
   ·rw [← ht _ _ (isK_is h)]; rfl
   ·cases h
  ·split at h <;> first | rfl | cases h
  ·split at h <;> first | rfl | cases h
  ·split at h
   ·obtain ⟨h1, h2⟩ := condB h
    rw [Nat.eq_of_beq_eq_true h1, ih _ _ h2]; rfl
   ·cases h
  ·split at h
   ·obtain ⟨h1, h⟩ := condB h
    obtain ⟨h2, h3⟩ := condB h
    rw [Nat.eq_of_beq_eq_true h1, hl h2, hl h3]; rfl
   ·cases h
  ·split at h
   ·rw [hl h]; rfl
   ·cases h
  ·split at h
   ·rw [hl h]; rfl
   ·cases h
  ·split at h <;> first | rfl | cases h
  ·split at h
   ·obtain ⟨h1, h⟩ := condB h
    obtain ⟨h2, h3⟩ := condB h
    rw [eqNs_is h2, eqVs_is h3, ← ht _ _ (isK_is h1)]; rfl
   ·cases h
  ·cases h
theorem sEs_eq (ht : ∀ a b, f a = some b → t a = b) : ∀ {x y : List (AV × AV × Nat)}, sEs f x y = true → y = rEs t x
 | [], [], _ => rfl
 | (k, v, c) :: x, (k', v', c') :: y, h => by
  unfold sEs at h
  obtain ⟨h1, h⟩ := condB h
  obtain ⟨h2, h⟩ := condB h
  obtain ⟨h3, h4⟩ := condB h
  have h3 : c = c' := Nat.eq_of_beq_eq_true h3
  show (k', v', c') :: y = (rV t 20 k, rV t 20 v, c) :: rEs t x
  rw [← sV_eq ht 20 k k' h1, ← sV_eq ht 20 v v' h2, ← sEs_eq ht h4, h3]
 | [], _ :: _, h => by cases h
 | _ :: _, [], h => by cases h
theorem sE2_eq (ht : ∀ a b, f a = some b → t a = b) : ∀ {x y : List (AV × AV)}, sE2 f x y = true → y = rE2 t x
 | [], [], _ => rfl
 | (k, v) :: x, (k', v') :: y, h => by
  unfold sE2 at h
  obtain ⟨h1, h⟩ := condB h
  obtain ⟨h2, h4⟩ := condB h
  show (k', v') :: y = (rV t 20 k, rV t 20 v) :: rE2 t x
  rw [← sV_eq ht 20 k k' h1, ← sV_eq ht 20 v v' h2, ← sE2_eq ht h4]
 | [], _ :: _, h => by cases h
 | _ :: _, [], h => by cases h
theorem sVs_eq (ht : ∀ a b, f a = some b → t a = b) : ∀ {x y : List (List (AV × AV × Nat) × Nat)}, sVs f x y = true → y = rVs t x
 | [], [], _ => rfl
 | (k, c) :: x, (k', c') :: y, h => by
  unfold sVs at h
  obtain ⟨h1, h⟩ := condB h
  obtain ⟨h2, h4⟩ := condB h
  have h1 : c = c' := Nat.eq_of_beq_eq_true h1
  show (k', c') :: y = (rEs t k, c) :: rVs t x
  rw [← sEs_eq ht (show sEs f k k' = true from h2), ← sVs_eq ht h4, h1]
 | [], _ :: _, h => by cases h
 | _ :: _, [], h => by cases h
theorem sO_eq (ht : ∀ a b, f a = some b → t a = b) {o' o : AObj} (h : sO f o' o = true) : o = rO t o' := by
 unfold sO at h
 split at h
 ·split at h
  ·obtain ⟨h1, h⟩ := condB h
   obtain ⟨h2, h⟩ := condB h
   obtain ⟨h3, h4⟩ := condB h
   rw [Nat.eq_of_beq_eq_true h1, beqB_is h2, Nat.eq_of_beq_eq_true h3, mLs_rL (sV_eq ht 20) h4]; rfl
  ·cases h
 ·split at h
  ·obtain ⟨h1, h2⟩ := condB h
   rw [Nat.eq_of_beq_eq_true h1, sEs_eq ht h2]; rfl
  ·cases h
 ·split at h
  ·rw [sE2_eq ht h]; rfl
  ·cases h
 ·split at h
  ·rw [sVs_eq ht h]; rfl
  ·cases h
 ·split at h
  ·obtain ⟨h1, h⟩ := condB h
   obtain ⟨h2, h3⟩ := condB h
   rw [Nat.eq_of_beq_eq_true h1, Nat.eq_of_beq_eq_true h2, Nat.eq_of_beq_eq_true h3]; rfl
  ·cases h
 ·split at h
  ·obtain ⟨h1, h2⟩ := condB h
   rw [Nat.eq_of_beq_eq_true h1, Nat.eq_of_beq_eq_true h2]; rfl
  ·cases h
 ·split at h
  ·obtain ⟨h1, h⟩ := condB h
   obtain ⟨h2, h3⟩ := condB h
   rw [Nat.eq_of_beq_eq_true h1, Nat.eq_of_beq_eq_true h2, eqRN_is h3]; rfl
  ·cases h
 ·cases h
theorem sO_kind {o' o : AObj} (h : sO f o' o = true) : kindM o' = true ∧ kindM o = true := by
 unfold sO at h
 split at h
 all_goals first | (split at h <;> first | exact ⟨rfl, rfl⟩ | cases h) | cases h
theorem sV_fwd (hf : ∀ a b L, f a = some b → ρ b = some L → ρ' a = some L) : ∀ (d : Nat) (x y : AV) (V : Value), sV f d x y = true → Rel ρ y V → Rel ρ' x V
 | 0, _, _, _, h, _ => by cases h
 | d + 1, x, y, V, h, hr => by
  have ih := sV_fwd hf d
  unfold sV at h
  split at h
  ·exact .junk V
  ·split at h
   ·obtain rfl := Nat.eq_of_beq_eq_true h
    cases hr with | ustr l s hl => exact .ustr _ s hl
   ·cases h
  ·split at h
   ·obtain rfl : _ = _ := by simpa using h
    cases hr; exact .bool _
   ·cases h
  ·split at h
   ·obtain ⟨h1, h2⟩ := condB h
    obtain rfl := kindNo_inj h1
    obtain rfl := (intEq_iff _ _).1 h2
    cases hr; exact .int _ _
   ·cases h
  ·split at h
   ·obtain rfl := Nat.eq_of_beq_eq_true h
    cases hr; exact .float _ _
   ·cases h
  ·split at h
   ·obtain ⟨h1, h2⟩ := condB h
    obtain rfl := Nat.eq_of_beq_eq_true h1
    obtain rfl := Nat.eq_of_beq_eq_true h2
    cases hr with | str _ _ hc => exact .str _ _ hc
   ·cases h
  ·split at h
   ·cases hr; exact .nilPtr
   ·cases h
  ·split at h
   ·obtain ⟨h1, h2⟩ := condB h
    obtain rfl := Nat.eq_of_beq_eq_true h2
    cases hr with | ptr _ _ L hb => exact .ptr _ _ L (hf _ _ L (isK_is h1) hb)
   ·cases h
  ·split at h
   ·cases hr; exact .nilSlice
   ·cases h
  ·split at h
   ·cases hr; exact .emptyS _ _
   ·cases h
  ·split at h
   ·obtain ⟨h1, h⟩ := condB h
    obtain ⟨h2, h⟩ := condB h
    obtain ⟨h3, h4⟩ := condB h
    obtain rfl := Nat.eq_of_beq_eq_true h2
    obtain rfl := Nat.eq_of_beq_eq_true h3
    obtain rfl := beqCap_eq h4
    cases hr with
    | sliceIs _ _ _ c L hb => exact .sliceIs _ _ _ c L (hf _ _ L (isK_is h1) hb)
    | sliceMore _ _ _ c sz L hb hc ht => exact .sliceMore _ _ _ c sz L (hf _ _ L (isK_is h1) hb) hc ht
   ·cases h
  ·split at h
   ·cases hr; exact .nilMap
   ·cases h
  ·split at h
   ·cases hr with | map _ L hb => exact .map _ L (hf _ _ L (isK_is h) hb)
   ·cases h
  ·split at h
   ·cases hr; exact .nilFunc
   ·cases h
  ·split at h
   ·cases hr; exact .nilIface
   ·cases h
  ·split at h
   ·obtain ⟨h1, h2⟩ := condB h
    obtain rfl := Nat.eq_of_beq_eq_true h1
    cases hr with | iface t v W hv => exact .iface _ _ W (ih _ _ W h2 hv)
   ·cases h
  ·split at h
   ·obtain ⟨h1, h⟩ := condB h
    obtain ⟨h2, h3⟩ := condB h
    obtain rfl := Nat.eq_of_beq_eq_true h1
    cases hr with | func _ _ _ A B ha hb => exact .func _ _ _ A B (mLs_ok ih h2 ha) (mLs_ok ih h3 hb)
   ·cases h
  ·split at h
   ·cases hr with | agg _ A ha => exact .agg _ A (mLs_ok ih h ha)
   ·cases h
  ·split at h
   ·cases hr with
    | tup _ A ha => exact .tup _ A (mLs_ok ih h ha)
   ·cases h
  ·split at h
   ·cases hr; exact .undef
   ·cases h
  ·split at h
   ·obtain ⟨h1, h⟩ := condB h
    obtain ⟨h2, h3⟩ := condB h
    obtain rfl := eqNs_is h2
    obtain rfl := eqVs_is h3
    cases hr with | tab _ _ _ L V hb hp hr => exact .tab _ _ _ L V (hf _ _ L (isK_is h1) hb) hp (hr.of_plain hp)
   ·cases h
  ·cases h
theorem sEs_fwd (hf : ∀ a b L, f a = some b → ρ b = some L → ρ' a = some L) : ∀ {x y : List (AV × AV × Nat)} {E : List MapEntry}, sEs f x y = true → ERel ρ y E → ERel ρ' x E
 | [], [], _, _, h => by cases h; exact .nil
 | (k, v, c) :: x, (k', v', c') :: y, _, hm, h => by
  unfold sEs at hm
  obtain ⟨h1, hm⟩ := condB hm
  obtain ⟨h2, hm⟩ := condB hm
  obtain ⟨h3, hm⟩ := condB hm
  have h3 : c = c' := Nat.eq_of_beq_eq_true h3
  have hm2 : sEs f x y = true := hm
  subst h3
  cases h with
  | cons _ _ K V _ _ R hk hv hr => exact .cons k v K V c x R (sV_fwd hf 20 _ _ _ h1 hk) (sV_fwd hf 20 _ _ _ h2 hv) (sEs_fwd hf hm2 hr)
 | [], _ :: _, _, h, _ => by cases h
 | _ :: _, [], _, h, _ => by cases h
theorem sE2_f2 : ∀ {x y : List (AV × AV)}, sE2 f x y = true → F2 (fun a b => sV f 20 a.1 b.1 = true ∧ sV f 20 a.2 b.2 = true) x y
 | [], [], _ => .nil
 | a :: x, b :: y, h => by
  unfold sE2 at h
  obtain ⟨h1, h⟩ := condB h
  obtain ⟨h2, h⟩ := condB h
  exact .cons ⟨h1, h2⟩ (sE2_f2 h)
 | [], _ :: _, h => by cases h
 | _ :: _, [], h => by cases h
theorem F2s.erel (hf : ∀ a b L, f a = some b → ρ b = some L → ρ' a = some L) : ∀ {es1 : List (AV × AV)} {esa : List (AV × AV × Nat)} {E : List MapEntry}, F2 (fun a b => sV f 20 a.1 b.1 = true ∧ sV f 20 a.2 b.2 = true) es1 (esa.map strip) → ERel ρ esa E → ∃ es2 : List (AV × AV × Nat), es2.map strip = es1 ∧ ERel ρ' es2 E
 | es1, [], _, h2, he => by cases he; cases h2; exact ⟨[], rfl, .nil⟩
 | es1, (k, v, c) :: r, _, h2, he => by
  cases he with
  | cons _ _ K V _ _ R hk hv hr =>
   cases h2 with
   | @cons a _ x _ hm h2 =>
    obtain ⟨es2, h3, h4⟩ := F2s.erel hf h2 hr
    obtain ⟨k', v'⟩ := a
    exact ⟨(k', v', c) :: es2, by rw [List.map_cons, h3]; rfl, .cons k' v' K V c es2 R (sV_fwd hf 20 _ _ _ hm.1 hk) (sV_fwd hf 20 _ _ _ hm.2 hv) h4⟩
theorem sE2_fwd (hf : ∀ a b L, f a = some b → ρ b = some L → ρ' a = some L) {x y : List (AV × AV)} {E : List MapEntry} (hm : sE2 f x y = true) (h : LRel ρ y E) : LRel ρ' x E := by
 obtain ⟨esa, hp, he⟩ := h
 obtain ⟨es1, hq, h3⟩ := F2.perm hp (sE2_f2 hm)
 obtain ⟨es2, h4, h5⟩ := F2s.erel hf h3 he
 exact ⟨es2, by show (es2.map strip).Perm x; rw [h4]; exact hq, h5⟩
theorem sVs_fwd : ∀ {x y : List (List (AV × AV × Nat) × Nat)}, sVs f x y = true → ∀ v ∈ y, ∃ u ∈ x, u.2 = v.2 ∧ sEs f u.1 v.1 = true
 | [], [], _, v, hv => by cases hv
 | a :: x, b :: y, h, v, hv => by
  unfold sVs at h
  obtain ⟨h1, h⟩ := condB h
  obtain ⟨h2, h3⟩ := condB h
  cases hv with
  | head => exact ⟨a, List.mem_cons_self .., Nat.eq_of_beq_eq_true h1, h2⟩
  | tail _ hv =>
   obtain ⟨u, hu, q⟩ := sVs_fwd h3 v hv
   exact ⟨u, List.mem_cons_of_mem _ hu, q⟩
 | [], _ :: _, h, _, _ => by cases h
 | _ :: _, [], h, _, _ => by cases h
theorem sO_fwd (hf : ∀ a b L, f a = some b → ρ b = some L → ρ' a = some L) {N : Nat → Prop} {L : Loc} {O : Option Obj} {o' o : AObj} (hm : sO f o' o = true) (h : ObjRel N ρ L O o) : ObjRel N ρ' L O o' := by
 unfold sO at hm
 split at hm
 ·split at hm
  ·obtain ⟨h1, q1⟩ := condB hm
   obtain ⟨h2, q2⟩ := condB q1
   obtain ⟨h3, q3⟩ := condB q2
   obtain rfl := Nat.eq_of_beq_eq_true h1
   obtain rfl := beqB_is h2
   obtain rfl := Nat.eq_of_beq_eq_true h3
   have hl := mLs_len q3
   obtain ⟨a, C, q, e1, e2, e3, ⟨e4, e5⟩, e6, e7⟩ := h
   exact ⟨a, C, q, e1, e2, e3, ⟨by rw [hl]; exact e4, by rw [hl]; exact mLs_ok (sV_fwd hf 20) q3 e5⟩, fun x => by rw [hl]; exact e6 x, e7⟩
  ·cases hm
 ·split at hm
  ·obtain ⟨h1, q1⟩ := condB hm
   obtain rfl := Nat.eq_of_beq_eq_true h1
   obtain ⟨a, E, e1, e2⟩ := h
   exact ⟨a, E, e1, sEs_fwd hf q1 e2⟩
  ·cases hm
 ·split at hm
  ·obtain ⟨a, E, c, e1, e2, e3⟩ := h
   exact ⟨a, E, c, e1, sE2_fwd hf hm e2, e3⟩
  ·cases hm
 ·split at hm
  ·obtain ⟨a, v, hv, E, e1, e2⟩ := h
   obtain ⟨u, hu, h1, h2⟩ := sVs_fwd hm v hv
   exact ⟨a, u, hu, E, by rw [h1]; exact e1, sEs_fwd hf h2 e2⟩
  ·cases hm
 ·split at hm
  ·obtain ⟨h1, q1⟩ := condB hm
   obtain ⟨h2, h3⟩ := condB q1
   obtain rfl := Nat.eq_of_beq_eq_true h1
   obtain rfl := Nat.eq_of_beq_eq_true h2
   obtain rfl := Nat.eq_of_beq_eq_true h3
   obtain ⟨a, C, q, e1, f1, g1, k1, i1, j1⟩ := h
   exact ⟨a, C, q, e1, f1, g1, ⟨k1.1, bits_rel k1.2⟩, i1, j1⟩
  ·cases hm
 ·split at hm
  ·obtain ⟨h1, h2⟩ := condB hm
   obtain rfl := Nat.eq_of_beq_eq_true h1
   obtain rfl := Nat.eq_of_beq_eq_true h2
   exact h
  ·cases hm
 ·split at hm
  ·obtain ⟨h1, q1⟩ := condB hm
   obtain ⟨h2, h3⟩ := condB q1
   obtain rfl := Nat.eq_of_beq_eq_true h1
   obtain rfl := Nat.eq_of_beq_eq_true h2
   obtain rfl := eqRN_is h3
   obtain ⟨a, C, q, e1, f1, g1, k1, i1, j1⟩ := h
   exact ⟨a, C, q, e1, f1, g1, ⟨k1.1, packCells_rel k1.2⟩, i1, j1⟩
  ·cases hm
 ·cases hm
theorem rL_bwd {g : AV → AV} (hg : ∀ v V, Rel ρ v V → Rel ρ' (g v) V) : ∀ {x : List AV} {X : List Value}, RelL ρ x X → RelL ρ' (rL g x) X
 | _, _, .nil => .nil
 | _, _, .cons v V r R h hr => .cons (g v) V (rL g r) R (hg v V h) (rL_bwd hg hr)
theorem rV_bwd (ht : ∀ b L, ρ b = some L → ρ' (t b) = some L) : ∀ (d : Nat) (v : AV) (V : Value), Rel ρ v V → Rel ρ' (rV t d v) V
 | 0, _, V, _ => .junk V
 | d + 1, v, V, h => by
  have ih := rV_bwd ht d
  cases h with
  | bool b => exact .bool b
  | int k n => exact .int k n
  | float k b => cases k <;> first | exact .float _ b | exact .junk _
  | str l c h => exact .str l c h
  | nilPtr => exact .nilPtr
  | ptr b off L h => exact .ptr _ off L (ht _ _ h)
  | nilSlice => exact .nilSlice
  | emptyS a c => exact .emptyS a c
  | sliceIs b o l c L h => exact .sliceIs _ o l c L (ht _ _ h)
  | sliceMore b o l c sz L h hc h2 => exact .sliceMore _ o l c sz L (ht _ _ h) hc h2
  | nilMap => exact .nilMap
  | map b L h => exact .map _ L (ht _ _ h)
  | func f a b A B ha hb => exact .func f _ _ A B (rL_bwd ih ha) (rL_bwd ih hb)
  | nilFunc => exact .nilFunc
  | iface u v V h => exact .iface u _ V (ih v V h)
  | nilIface => exact .nilIface
  | agg a A h => exact .agg _ A (rL_bwd ih h)
  | tup a A h => exact .tup _ A (rL_bwd ih h)
  | undef => exact .undef
  | ustr l s h => exact .ustr l s h
  | tab b ds vs L V hb hp hr => exact .tab _ ds vs L V (ht _ _ hb) hp (hr.of_plain hp)
  | _ => exact .junk _
theorem rEs_bwd (ht : ∀ b L, ρ b = some L → ρ' (t b) = some L) : ∀ {x : List (AV × AV × Nat)} {E : List MapEntry}, ERel ρ x E → ERel ρ' (rEs t x) E
 | _, _, .nil => .nil
 | _, _, .cons k v K V c r R hk hv hr => .cons _ _ K V c _ R (rV_bwd ht 20 k K hk) (rV_bwd ht 20 v V hv) (rEs_bwd ht hr)
theorem rE2_map : ∀ {x : List (AV × AV)}, rE2 t x = x.map fun a => (rV t 20 a.1, rV t 20 a.2)
 | [] => rfl
 | a :: x => by rw [List.map_cons, ← rE2_map]; rfl
theorem rEs_map : ∀ {x : List (AV × AV × Nat)}, (rEs t x).map strip = (x.map strip).map fun a => (rV t 20 a.1, rV t 20 a.2)
 | [] => rfl
 | a :: x => by
  show strip (rV t 20 a.1, rV t 20 a.2.1, a.2.2) :: (rEs t x).map strip = _
  rw [rEs_map]; rfl
theorem rE2_bwd (ht : ∀ b L, ρ b = some L → ρ' (t b) = some L) {x : List (AV × AV)} {E : List MapEntry} (h : LRel ρ x E) : LRel ρ' (rE2 t x) E := by
 obtain ⟨es, hp, he⟩ := h
 refine ⟨rEs t es, ?_, rEs_bwd ht he⟩
 show ((rEs t es).map strip).Perm (rE2 t x)
 rw [rEs_map, rE2_map]
 exact List.Perm.map _ hp
theorem rVs_mem : ∀ {x : List (List (AV × AV × Nat) × Nat)} {v : List (AV × AV × Nat) × Nat}, v ∈ x → (rEs t v.1, v.2) ∈ rVs t x
 | _ :: _, _, .head _ => List.mem_cons_self ..
 | _ :: _, _, .tail _ h => List.mem_cons_of_mem _ (rVs_mem h)
theorem rO_bwd (ht : ∀ b L, ρ b = some L → ρ' (t b) = some L) {N : Nat → Prop} {L : Loc} {O : Option Obj} {o : AObj} (h : ObjRel N ρ L O o) : ObjRel N ρ' L O (rO t o) := by
 cases o with
 | cells e cs a b =>
  obtain ⟨q1, C, q, e1, e2, e3, ⟨e4, e5⟩, e6, e7⟩ := h
  exact ⟨q1, C, q, e1, e2, e3, ⟨by rw [rL_len]; exact e4, by rw [rL_len]; exact rL_bwd (rV_bwd ht 20) e5⟩, fun x => by rw [rL_len]; exact e6 x, e7⟩
 | map es c => obtain ⟨a, E, e1, e2⟩ := h; exact ⟨a, E, e1, rEs_bwd ht e2⟩
 | lmap es => obtain ⟨a, E, c, e1, e2, e3⟩ := h; exact ⟨a, E, c, e1, rE2_bwd ht e2, e3⟩
 | mapAlt vs => obtain ⟨a, v, hv, E, e1, e2⟩ := h; exact ⟨a, _, rVs_mem hv, E, e1, rEs_bwd ht e2⟩
 | bits e n c =>
  obtain ⟨a, C, q, e1, f1, g1, k1, i1, j1⟩ := h
  exact ⟨a, C, q, e1, f1, g1, ⟨k1.1, bits_rel k1.2⟩, i1, j1⟩
 | bytes e n => exact h
 | pack e n t =>
  obtain ⟨a, C, q, e1, f1, g1, k1, i1, j1⟩ := h
  exact ⟨a, C, q, e1, f1, g1, ⟨k1.1, packCells_rel k1.2⟩, i1, j1⟩
 | _ => trivial
theorem rO_live' {o : AObj} (h : (rO t o).live = true) : kindM o = true := by
 cases o <;> first | rfl | cases h
end
section
variable {β : Type}
noncomputable def setKK {α : Type} (o : α) (b : Key) (t : RT α) (k : RT α → β) : β := RT.rec (motive := fun _ => β) (fun t => Key.rec (motive := fun _ => β) (fun a b c d e => setK5 (some o) a b c d e t (fun t => k ⟨t⟩)) b) t
theorem setKK_eq {α : Type} (o : α) (b : Key) (t : RT α) (k : RT α → β) : setKK o b t k = k (t.set o b) := by
 obtain ⟨t⟩ := t
 obtain ⟨a, b, c, d, e⟩ := b
 exact setK5_eq (some o) a b c d e t _
noncomputable def extK : List (Key × Key) → RT Key → (RT Key → β) → β
 | [], σ, k => k σ
 | p :: r, σ, k => match σ.get p.1 with
  | some _ => extK r σ k
  | none => setKK p.2 p.1 σ (fun σ => extK r σ k)
noncomputable def extR : List (Key × Key) → RT Key → RT Key
 | [], σ => σ
 | p :: r, σ => match σ.get p.1 with
  | some _ => extR r σ
  | none => extR r (σ.set p.2 p.1)
theorem extK_eq : ∀ (l : List (Key × Key)) (σ : RT Key) (k : RT Key → β), extK l σ k = k (extR l σ)
 | [], _, _ => rfl
 | p :: r, σ, k => by
  unfold extK extR
  cases σ.get p.1 with
  | some _ => exact extK_eq r σ k
  | none =>
   show setKK p.2 p.1 σ (fun σ => extK r σ k) = _
   rw [setKK_eq, extK_eq r]
end
def SubT (σ σ' : RT Key) : Prop := ∀ a b, σ.get a = some b → σ'.get a = some b
theorem extR_sub : ∀ (l : List (Key × Key)) (σ : RT Key), SubT σ (extR l σ)
 | [], _ => fun _ _ h => h
 | p :: r, σ => fun a b h => by
  unfold extR
  cases hp : σ.get p.1 with
  | some _ => exact extR_sub r σ a b h
  | none =>
   refine extR_sub r _ a b ?_
   rw [RT.get_set_other _ _ _ _ (fun e => by rw [← e, hp] at h; cases h)]; exact h
def isDead (o : AObj) : Bool := match o with
 | .dead => true
 | _ => false
theorem isDead_is {o : AObj} (h : isDead o = true) : o = .dead := by cases o <;> first | rfl | cases h
def isDom (o : AObj) : Bool := match o with
 | .dom _ => true
 | _ => false
def domIn (o' o : AObj) : Bool := match o' with
 | .dom ds => (match o with | .dom es => subN es ds | _ => false)
 | _ => false
theorem domIn_dom {o' o : AObj} (h : domIn o' o = true) : isDom o' = true ∧ isDom o = true := by
 unfold domIn at h
 split at h
 ·split at h
  ·exact ⟨rfl, rfl⟩
  ·cases h
 ·cases h
theorem domIn_ok {N : Nat → Prop} {ρ ρ' : Rho} {L : Loc} {O : Option Obj} {o' o : AObj} (hm : domIn o' o = true) (h : ObjRel N ρ L O o) : ObjRel N ρ' L O o' := by
 unfold domIn at hm
 split at hm
 ·split at hm
  ·exact subN_mem hm _ h
  ·cases hm
 ·cases hm
noncomputable def sOD (σ : RT Key) (o' o : AObj) : Bool := cond (isDead o') true (cond (domIn o' o) true (sO σ.get o' o))
noncomputable def matchX (h : Heap) (k : RT Key → Option (AV × Heap)) : List (Key × AObj) → RT Key → Option (AV × Heap)
 | [], σ => k σ
 | p :: r, σ => match σ.get p.1 with
  | none => none
  | some b => match h.get b with
   | none => none
   | some o => extK (prsO p.2 o) σ (fun σ => cond (sOD σ p.2 o) (matchX h k r σ) none)
noncomputable def freshX (preT : RT AObj) (k : RT Key → Heap → Option (AV × Heap)) : List (Key × AObj) → RT Key → Heap → Option (AV × Heap)
 | [], τ, h => k τ h
 | p :: r, τ, h => match preT.get p.1 with
  | some _ => freshX preT k r τ h
  | none => match τ.get p.1 with
   | some _ => none
   | none => match h.get h.next with
    | some _ => none
    | none => setKK h.next p.1 τ (fun τ => putK1 .dead h.next h (fun h => freshX preT k r τ ⟨h.t, incr h.next⟩))
noncomputable def tK (τ : RT Key) (a : Key) : Key := match τ.get a with
 | some b => b
 | none => a
noncomputable def putX (τ : RT Key) (k : Heap → Option (AV × Heap)) : List (Key × AObj) → Heap → Option (AV × Heap)
 | [], h => k h
 | p :: r, h => putK1 (rO (tK τ) p.2) (tK τ p.1) h (fun h => putX τ k r h)
noncomputable def postX (r : MRow) (τ : RT Key) (h : Heap) : Option (AV × Heap) := putX τ (fun h => some (rV (tK τ) 20 r.val, h)) r.post h
noncomputable def afterX (r : MRow) (h : Heap) (σ : RT Key) : Option (AV × Heap) := cond (injK σ RT.nil r.pre RT.nil) (freshX r.preT (postX r) r.post σ h) none
noncomputable def applyX (r : MRow) (args : List AV) (h : Heap) : Option (AV × Heap) := extK (prsL (prsV 20) r.args args) RT.nil (fun σ => cond (mLs (sV σ.get 20) r.args args) (matchX h (afterX r h) r.pre σ) none)
noncomputable def mrowX (args : List AV) (h : Heap) : List MRow → Option (AV × Heap)
 | [] => none
 | r :: rs => match applyX r args h with
  | some x => some x
  | none => mrowX args h rs
noncomputable def preOkX (S : Key → Bool) (st : RT AObj) : List (Key × AObj) → Bool
 | [] => true
 | p :: r => cond (objIn S p.2) (cond (or (isDead p.2) (or (isDom p.2) (kindM p.2))) (cond (isOn (st.get p.1)) false (preOkX S st r)) false) false
noncomputable def MRow.okX (P : Program) (laid : List (Nat × AObj)) (r : MRow) : Bool :=
 cond (listIn (avIn (inT r.preT) 20) r.args) (cond (preOkX (inT r.preT) (startT laid P.globals.size) r.pre) (cond (nodupK r.pre RT.nil) (reachGo r.pre (addKs (ksL (ksV 20) r.args) RT.nil)) false) false) false
end Go.VM
namespace Go.VM
theorem prsX_sub {h : Heap} {k : RT Key → Option (AV × Heap)} {x : AV × Heap} : ∀ {l : List (Key × AObj)} {σ : RT Key}, matchX h k l σ = some x →
  ∃ σf, k σf = some x ∧ SubT σ σf ∧ ∀ p ∈ l, ∃ b o σ', σf.get p.1 = some b ∧ h.get b = some o ∧ SubT σ' σf ∧ (p.2 = .dead ∨ domIn p.2 o = true ∨ sO σ'.get p.2 o = true)
 | [], σ, e => ⟨σ, e, fun _ _ h => h, fun _ h => by cases h⟩
 | p :: r, σ, e => by
  unfold matchX at e
  cases hp : σ.get p.1 with
  | none => rw [hp] at e; cases e
  | some b =>
   rw [hp] at e
   dsimp only at e
   cases hb : h.get b with
   | none => rw [hb] at e; cases e
   | some o =>
    rw [hb] at e
    dsimp only at e
    rw [extK_eq] at e
    cases hc : sOD (extR (prsO p.2 o) σ) p.2 o with
    | false => rw [hc] at e; cases e
    | true =>
     rw [hc, cond_true] at e
     obtain ⟨σf, h1, h2, h3⟩ := prsX_sub e
     refine ⟨σf, h1, fun a c hac => h2 a c (extR_sub _ _ a c hac), fun q hq => ?_⟩
     cases hq with
     | tail _ hq => exact h3 q hq
     | head =>
      refine ⟨b, o, extR (prsO p.2 o) σ, h2 _ _ (extR_sub _ _ _ _ hp), hb, h2, ?_⟩
      unfold sOD at hc
      cases hd : isDead p.2 with
      | true => exact .inl (isDead_is hd)
      | false =>
       rw [hd, cond_false] at hc
       cases hd2 : domIn p.2 o with
       | true => exact .inr (.inl rfl)
       | false => rw [hd2] at hc; exact .inr (.inr hc)
structure NewT (σ τ : RT Key) (h h' : Heap) : Prop where
 sub : SubT σ τ
 old : ∀ b o, h.get b = some o → h'.get b = some o
 inj : ∀ a b, τ.get a = some b → σ.get a = none → h.get b = none ∧ h'.get b = some .dead
 two : ∀ a a' b, τ.get a = some b → τ.get a' = some b → σ.get a = none → σ.get a' = none → a = a'
 out : ∀ b, h.get b = none → h'.get b = none ∨ h'.get b = some .dead
theorem freshX_spec {preT : RT AObj} {k : RT Key → Heap → Option (AV × Heap)} {x : AV × Heap} : ∀ {l : List (Key × AObj)} {σ : RT Key} {h : Heap}, freshX preT k l σ h = some x →
  ∃ τ h', k τ h' = some x ∧ NewT σ τ h h' ∧ ∀ p ∈ l, preT.get p.1 = none → ∃ b, τ.get p.1 = some b ∧ σ.get p.1 = none
 | [], σ, h, e => ⟨σ, h, e, ⟨fun _ _ h => h, fun _ _ h => h, (fun a b h1 h2 => by rw [h1] at h2; cases h2), (fun a a' b h1 _ h2 => by rw [h1] at h2; cases h2), fun _ h => .inl h⟩, (fun _ h => by cases h)⟩
 | p :: r, σ, h, e => by
  unfold freshX at e
  cases hpp : preT.get p.1 with
  | some b =>
   rw [hpp] at e
   obtain ⟨τ, h', h1, h2, h3⟩ := freshX_spec (show freshX preT k r σ h = some x from e)
   refine ⟨τ, h', h1, h2, fun q hq hn => ?_⟩
   cases hq with
   | head => rw [hpp] at hn; cases hn
   | tail _ hq => exact h3 q hq hn
  | none =>
  rw [hpp] at e
  dsimp only at e
  cases hp : σ.get p.1 with
  | some b => rw [hp] at e; cases e
  | none =>
   rw [hp] at e
   dsimp only at e
   cases hn : h.get h.next with
   | some _ => rw [hn] at e; cases e
   | none =>
    rw [hn] at e
    dsimp only at e
    rw [setKK_eq, putK1_eq] at e
    obtain ⟨τ, h', h1, h2, h3⟩ := freshX_spec e
    have hg : ∀ b, (Heap.mk (h.put h.next .dead).t (incr (h.put h.next .dead).next)).get b = (h.put h.next .dead).get b := fun b => by cases h; rfl
    have hsub : SubT σ (σ.set h.next p.1) := fun a b hab => by
     rw [RT.get_set_other _ _ _ _ (fun e => by rw [← e, hp] at hab; cases hab)]; exact hab
    have hpτ : τ.get p.1 = some h.next := h2.sub _ _ (RT.get_set_same ..)
    have hdead : h'.get h.next = some .dead := h2.old _ _ (by rw [hg, Heap.get_put_same])
    have key : ∀ a b, τ.get a = some b → σ.get a = none → a ≠ p.1 → (σ.set h.next p.1).get a = none := fun a b _ h5 h6 => by
     rw [RT.get_set_other _ _ _ _ (fun e => h6 e.symm)]; exact h5
    have hne : ∀ a b, τ.get a = some b → σ.get a = none → a ≠ p.1 → b ≠ h.next := fun a b h4 h5 h6 e => by
     have := (h2.inj a b h4 (key a b h4 h5 h6)).1
     rw [hg, e, Heap.get_put_same] at this; cases this
    refine ⟨τ, h', h1, ⟨fun a b hab => h2.sub _ _ (hsub a b hab), fun b o hb => ?_, fun a b h4 h5 => ?_, fun a a' b h4 h5 h6 h7 => ?_, fun b hb => ?_⟩, fun q hq hqn => ?_⟩
    ·refine h2.old b o ?_
     rw [hg, Heap.get_put_other _ _ _ _ (fun e => by rw [← e, hn] at hb; cases hb)]; exact hb
    ·by_cases h6 : a = p.1
     ·subst h6
      rw [hpτ] at h4; injection h4 with h4; subst h4
      exact ⟨hn, hdead⟩
     ·obtain ⟨h8, h9⟩ := h2.inj a b h4 (key a b h4 h5 h6)
      rw [hg, Heap.get_put_other _ _ _ _ (fun e => hne a b h4 h5 h6 e.symm)] at h8
      exact ⟨h8, h9⟩
    ·by_cases ha : a = p.1 <;> by_cases ha' : a' = p.1
     ·rw [ha, ha']
     ·subst ha
      rw [hpτ] at h4; injection h4 with h4
      exact absurd h4.symm (hne a' b h5 h7 ha')
     ·subst ha'
      rw [hpτ] at h5; injection h5 with h5
      exact absurd h5.symm (hne a b h4 h6 ha)
     ·exact h2.two a a' b h4 h5 (key a b h4 h6 ha) (key a' b h5 h7 ha')
    ·by_cases hbn : b = h.next
     ·rw [hbn]; exact .inr hdead
     ·exact h2.out b (by rw [hg, Heap.get_put_other _ _ _ _ (fun e => hbn e.symm)]; exact hb)
    ·cases hq with
     | head => exact ⟨_, hpτ, hp⟩
     | tail _ hq =>
      obtain ⟨b, h4, h5⟩ := h3 q hq hqn
      refine ⟨b, h4, ?_⟩
      cases h6 : σ.get q.1 with
      | none => rfl
      | some c => rw [hsub _ _ h6] at h5; cases h5
theorem putX_spec {τ : RT Key} {k : Heap → Option (AV × Heap)} {x : AV × Heap} : ∀ {l : List (Key × AObj)} {h : Heap}, putX τ k l h = some x →
  ∃ h', k h' = some x ∧ (∀ b, (∀ p ∈ l, tK τ p.1 ≠ b) → h'.get b = h.get b) ∧ ∀ b, (∃ p ∈ l, tK τ p.1 = b) → ∃ p ∈ l, tK τ p.1 = b ∧ h'.get b = some (rO (tK τ) p.2) ∧ (putO l RT.nil).get p.1 = some p.2
 | [], h, e => ⟨h, e, fun _ _ => rfl, fun _ ⟨_, hp, _⟩ => by cases hp⟩
 | p :: r, h, e => by
  unfold putX at e
  rw [putK1_eq] at e
  obtain ⟨h', h1, h2, h3⟩ := putX_spec e
  refine ⟨h', h1, fun b hb => ?_, fun b hb => ?_⟩
  ·rw [h2 b fun q hq => hb q (List.mem_cons_of_mem _ hq), Heap.get_put_other _ _ _ _ (hb p (List.mem_cons_self ..))]
  ·by_cases hr : ∃ q ∈ r, tK τ q.1 = b
   ·obtain ⟨q, hq, h4, h5, h6⟩ := h3 b hr
    refine ⟨q, List.mem_cons_of_mem _ hq, h4, h5, ?_⟩
    show (putO r (RT.nil.set p.2 p.1)).get q.1 = _
    rw [putO_same ⟨q, hq, rfl⟩ (t' := RT.nil)]; exact h6
   ·have hpb : tK τ p.1 = b := by
     obtain ⟨q, hq, e⟩ := hb
     cases hq with
     | head => exact e
     | tail _ hq => exact absurd ⟨q, hq, e⟩ hr
    refine ⟨p, List.mem_cons_self .., hpb, ?_, ?_⟩
    ·rw [h2 b fun q hq e => hr ⟨q, hq, e⟩, ← hpb, Heap.get_put_same]
    ·show (putO r (RT.nil.set p.2 p.1)).get p.1 = _
     rw [putO_out fun q hq e => hr ⟨q, hq, by rw [← hpb, e]⟩, RT.get_set_same]
theorem preOkX_spec {S : Key → Bool} {st : RT AObj} : ∀ {l : List (Key × AObj)}, preOkX S st l = true → ∀ p ∈ l, objIn S p.2 = true ∧ (p.2 = .dead ∨ isDom p.2 = true ∨ kindM p.2 = true) ∧ st.get p.1 = none
 | [], _, p, hp => by cases hp
 | q :: r, h, p, hp => by
  unfold preOkX at h
  obtain ⟨h1, h⟩ := condB h
  obtain ⟨h2, h⟩ := condB h
  cases hq : st.get q.1 with
  | some x => rw [hq] at h; cases h
  | none =>
   rw [hq] at h
   cases hp with
   | head =>
    refine ⟨h1, ?_, hq⟩
    cases hd : isDead q.2 with
    | true => exact .inl (isDead_is hd)
    | false =>
     rw [hd] at h2
     cases hd2 : isDom q.2 with
     | true => exact .inr (.inl rfl)
     | false => rw [hd2] at h2; exact .inr (.inr h2)
   | tail _ hp => exact preOkX_spec (show preOkX S st r = true from h) p hp
theorem ObjRel.refitX {N N' : Nat → Prop} {ρ ρ' : Rho} {S : Key → Bool} {L : Loc} {O : Option Obj} {o : AObj} (hk : o = .dead ∨ isDom o = true ∨ kindM o = true) (hN : kindM o = true → ¬ N' L.B) (hS : ∀ b L, S b = true → ρ b = some L → ρ' b = some L) (ho : objIn S o = true) (h : ObjRel N ρ L O o) : ObjRel N' ρ' L O o := by
 rcases hk with rfl | hk | hk
 ·trivial
 ·cases o with
  | dom ds => exact h
  | _ => cases hk
 ·exact ObjRel.refit hk (hN hk) hS ho h
end Go.VM
namespace Go.VM
theorem isDom_live {o : AObj} (h : isDom o = true) (k : o.live = true) : False := by cases o <;> first | cases h; done | cases k; done
theorem isDom_kind {o : AObj} (h : isDom o = true) (k : kindM o = true) : False := by cases o <;> first | cases h; done | cases k; done
section
variable [H : Hook] {P : Program}
theorem mrowX_ok (hR : RowsOk P) (hF : P.follows .mixedOrders = true) (h64 : P.globals.size ≤ 64) {laid : List (Nat × AObj)} {tot : Nat → Nat} {W0 : Base} (hW : W0.Keeps P laid tot)
  (hS : ∀ b : Base, b.Keeps P laid tot → (∀ g v, g < P.globals.size → W0.w.cell? ⟨g, 0, none⟩ = some v → b.w.cell? ⟨g, 0, none⟩ = some v) → SumOk P b)
  {f n : Nat} {r : MRow} {k : Key} (hok : r.okX P laid = true) (hrun : ∀ c ∈ picks r.pre, runF P (covers r) n (startM P laid f r.args c k) = true)
  {ρ : Rho} {h : Heap} {w : World} {args : List AV} {A : List Value} (hs : Sim W0 ρ h w) (hr : RelL ρ args A) {x : AV × Heap} (ha : applyX r args h = some x) :
  Calls P f ⟨A⟩ w fun e w' => ∃ ρ' V, e = .returned V ∧ Sub ρ ρ' ∧ Kept ρ h ρ' x.2 ∧ Rel ρ' x.1 V ∧ Sim W0 ρ' x.2 w' := by
 unfold applyX at ha
 rw [extK_eq] at ha
 generalize extR (prsL (prsV 20) r.args args) RT.nil = σ0 at ha
 cases hargs0 : mLs (sV σ0.get 20) r.args args with
 | false => rw [hargs0] at ha; cases ha
 | true =>
 rw [hargs0, cond_true] at ha
 obtain ⟨σ, ha, hsub0, hm⟩ := prsX_sub ha
 unfold afterX at ha
 cases hinjσ : injK σ RT.nil r.pre RT.nil with
 | false => rw [hinjσ] at ha; cases ha
 | true =>
 rw [hinjσ, cond_true] at ha
 obtain ⟨τ, hm', ha, hnew, hpostN⟩ := freshX_spec ha
 unfold postX at ha
 obtain ⟨hh, ha, hputout, hputin⟩ := putX_spec ha
 injection ha with ha
 subst ha
 unfold MRow.okX at hok
 obtain ⟨hargs, hok⟩ := condB hok
 obtain ⟨hpo, hok⟩ := condB hok
 obtain ⟨hnd, hreach⟩ := condB hok
 have hnd := (nodupK_spec hnd).2
 have hT : ∀ p ∈ r.pre, r.preT.get p.1 = some p.2 := putO_nodup hnd
 have hTs : ∀ {b o}, r.preT.get b = some o → (b, o) ∈ r.pre := fun {b o} e => by
  rcases putO_some e with h1 | ⟨_, h1⟩
  ·exact h1
  ·rw [RT.get_nil] at h1; cases h1
 have hpk := preOkX_spec hpo
 obtain ⟨_, hi2⟩ := injK_spec hinjσ
 let ρσ : Rho := fun a => (σ.get a).bind ρ
 have hσρ : ∀ {σ' : RT Key}, SubT σ' σ → ∀ a b L, σ'.get a = some b → ρ b = some L → ρσ a = some L := fun {σ'} hsub a b L e1 e2 => by
  show (σ.get a).bind ρ = _
  rw [hsub a b e1]; exact e2
 have hrσ : RelL ρσ r.args A := mLs_ok (sV_fwd (hσρ hsub0) 20) hargs0 hr
 have hobjσ : ∀ p ∈ r.pre, ∀ L, ρσ p.1 = some L → ∃ b o, σ.get p.1 = some b ∧ h.get b = some o ∧ ρ b = some L ∧ L.B < w.heap.size ∧ ObjRel W0.F ρσ L w.heap[L.B]? p.2 ∧ (p.2 = .dead ∨ isDom p.2 = true ∨ (kindM p.2 = true ∧ kindM o = true ∧ ∃ σ', SubT σ' σ ∧ sO σ'.get p.2 o = true)) := fun p hp L e => by
  obtain ⟨b, o, σ', q1, q2, q3, q4⟩ := hm p hp
  have e : (σ.get p.1).bind ρ = some L := e
  rw [q1] at e
  have e : ρ b = some L := e
  obtain ⟨o', g, hlt, ho⟩ := hs.obj b L e
  rw [q2] at g; injection g with g; subst g
  refine ⟨b, o, q1, q2, e, hlt, ?_, ?_⟩
  ·rcases q4 with q4 | q4 | q4
   ·rw [q4]; trivial
   ·exact domIn_ok q4 ho
   ·exact sO_fwd (hσρ q3) q4 ho
  ·rcases q4 with q4 | q4 | q4
   ·exact .inl q4
   ·exact .inr (.inl (domIn_dom q4).1)
   ·exact .inr (.inr ⟨(sO_kind q4).1, (sO_kind q4).2, σ', q3, q4⟩)
 have hρ : ∀ p ∈ r.pre, ∃ L, ρσ p.1 = some L := by
  refine reachGo_spec hreach (fun b hb => ?_) (fun p hp hL b hb => ?_)
  ·rcases addKs_get hb with h1 | h1
   ·exact ksL_rel (ksV_rel 20) hrσ b h1
   ·rw [RT.get_nil] at h1; cases h1
  ·obtain ⟨L, e⟩ := hL
   obtain ⟨_, _, _, _, _, _, ho, _⟩ := hobjσ p hp L e
   exact ksO_rel ho b hb
 have hfree : ∀ p ∈ r.pre, kindM p.2 = true → ∀ L, ρσ p.1 = some L → ¬ W0.F L.B := fun p hp hk L e => by
  obtain ⟨_, _, _, _, _, _, ho, _⟩ := hobjσ p hp L e
  exact kindM_free hk ho
 -- the callee's base
 let F : Nat → Prop := fun a => a < w.heap.size ∧ ∀ p ∈ r.pre, kindM p.2 = true → ∀ L, ρσ p.1 = some L → L.B ≠ a
 let ρK : Rho := fun b => match startRho tot P.globals.size b with
  | some L => some L
  | none => match r.preT.get b with
   | some _ => ρσ b
   | none => none
 let w0 : Base := ⟨w, F, fun a e => e.1, ρK⟩
 have hgk : ∀ p ∈ r.pre, startRho tot P.globals.size p.1 = none := fun p hp => by
  cases e : startRho tot P.globals.size p.1 with
  | none => rfl
  | some L =>
   obtain ⟨g, hg, hk, _⟩ := startRho_some e
   have := (hpk p hp).2.2
   rw [hk, startT_at h64 hg] at this; cases this
 have hFW : ∀ a, W0.F a → F a := fun a ha => ⟨Nat.lt_of_lt_of_le (W0.lt a ha) hs.size, fun p hp hk L e hB => hfree p hp hk L e (hB ▸ ha)⟩
 have hKp : ∀ p ∈ r.pre, ρK p.1 = ρσ p.1 := fun p hp => by
  show (match startRho tot P.globals.size p.1 with | some L => some L | none => match r.preT.get p.1 with | some _ => ρσ p.1 | none => none) = _
  rw [hgk p hp, hT p hp]
 have hKs : ∀ {b L}, startRho tot P.globals.size b = some L → ρK b = some L := fun {b L} e => by
  show (match startRho tot P.globals.size b with | some L => some L | none => match r.preT.get b with | some _ => ρσ b | none => none) = _
  rw [e]
 have hKc : ∀ {b L}, ρK b = some L → startRho tot P.globals.size b = some L ∨ ∃ o, (b, o) ∈ r.pre ∧ ρσ b = some L := fun {b L} e => by
  have e : (match startRho tot P.globals.size b with | some L => some L | none => match r.preT.get b with | some _ => ρσ b | none => none) = some L := e
  cases hst : startRho tot P.globals.size b with
  | some L' => rw [hst] at e; injection e with e; subst e; exact .inl rfl
  | none =>
   rw [hst] at e
   cases hp : r.preT.get b with
   | none => rw [hp] at e; cases e
   | some o => rw [hp] at e; exact .inr ⟨o, hTs hp, e⟩
 have laidw : LaidOk P laid tot w := hW.world hs.size hs.old
 have hkeeps : w0.Keeps P laid tot := ⟨laidw, fun g hg => hFW g (hW.glob g hg), fun b L e => hKs e⟩
 have hSum := hS w0 hkeeps fun g v hg hc => cell_keeps hW hc hg hs.old
 have hS' : ∀ b L, inT r.preT b = true → ρσ b = some L → ρK b = some L := fun b L hb e => by
  cases hp : r.preT.get b with
  | none => unfold inT at hb; rw [hp] at hb; cases hb
  | some o => rw [← e]; exact hKp (b, o) (hTs hp)
 have hnF : ∀ p ∈ r.pre, kindM p.2 = true → ∀ L, ρσ p.1 = some L → ¬ F L.B := fun p hp hk L e hF => hF.2 p hp hk L e rfl
 obtain ⟨c, hc, hck, hcq⟩ := picks_ok (Q := fun b o => (∃ L, ρσ b = some L ∧ L.B < w.heap.size ∧ ObjRel F ρK L w.heap[L.B]? o) ∧ ∀ q ∈ r.pre, q.1 = b → (q.2 = .dead ∨ isDom q.2 = true) → o = q.2) (fun b vs hq => by
   obtain ⟨⟨L, e, hlt, hN, v, hv, E, hO, hE⟩, hd⟩ := hq
   exact ⟨v, hv, ⟨L, e, hlt, hN, E, hO, hE⟩, fun q hq h1 h2 => by
    have h3 := hd q hq h1 h2
    rcases h2 with h2 | h2 <;> (rw [← h3] at h2; cases h2)⟩) (l := r.pre) (fun p hp => by
   obtain ⟨L, e⟩ := hρ p hp
   obtain ⟨_, _, _, _, _, hlt, ho, _⟩ := hobjσ p hp L e
   refine ⟨⟨L, e, hlt, ObjRel.refitX (hpk p hp).2.1 (fun hk => hnF p hp hk L e) hS' (hpk p hp).1 ho⟩, fun q hq h1 h2 => ?_⟩
   have h3 := hT q hq
   rw [h1, hT p hp] at h3; injection h3)
 have hcin : ∀ {b}, (∃ p ∈ c, p.1 = b) ↔ ∃ p ∈ r.pre, p.1 = b := fun {b} => by
  have h1 : b ∈ c.map (·.1) ↔ b ∈ r.pre.map (·.1) := by rw [hck]
  rw [List.mem_map, List.mem_map] at h1
  exact h1
 have hg0 : ∀ b, (putObjs c ⟨startT laid P.globals.size, k⟩).get b = (putO c (startT laid P.globals.size)).get b := fun b => by rw [putObjs_T]; rfl
 have hlive0 : ∀ {b o p}, (b, p) ∈ r.pre → (putObjs c ⟨startT laid P.globals.size, k⟩).get b = some o → o.live = true → kindM p = true := fun {b o p} hp g l => by
  obtain ⟨o1, h1, h2⟩ := putO_in (l := c) (t := startT laid P.globals.size) (b := b) (hcin.2 ⟨(b, p), hp, rfl⟩)
  rw [hg0, h1] at g; injection g with g; subst g
  rcases (hpk _ hp).2.1 with h3 | h3 | h3
  ·have h4 := (hcq _ h2).2 _ hp rfl (.inl h3)
   have h4 : o1 = p := h4
   have h3 : p = .dead := h3
   rw [h4, h3] at l; cases l
  ·have h4 := (hcq _ h2).2 _ hp rfl (.inr h3)
   have h4 : o1 = p := h4
   have h3 : isDom p = true := h3
   rw [h4] at l
   exact (isDom_live h3 l).elim
  ·exact h3
 have hs0 : Sim w0 ρK (putObjs c ⟨startT laid P.globals.size, k⟩) w := by
  refine ⟨rfl, rfl, Nat.le_refl _, fun _ _ => rfl, Sub.refl _, fun b L e => ?_, fun b b' L L' o o' e e' g g' l l' hB => ?_⟩
  ·rcases hKc e with e1 | ⟨o, hp, e1⟩
   ·obtain ⟨g, hg, rfl, rfl⟩ := startRho_some e1
    have hout : ∀ p ∈ c, p.1 ≠ gkey g := fun p hp he => by
     obtain ⟨q, hq, hqe⟩ := hcin.1 ⟨p, hp, he⟩
     have := hgk q hq
     rw [hqe, e1] at this; cases this
    refine ⟨_, by rw [hg0, putO_out hout]; exact startT_at h64 hg, Nat.lt_of_lt_of_le hg laidw.1, ?_⟩
    cases hx : laid.lookup g with
    | none => exact trivial
    | some o => exact laidw.2 g o hg hx _ _
   ·obtain ⟨o1, h1, h2⟩ := putO_in (l := c) (t := startT laid P.globals.size) (b := b) (hcin.2 ⟨(b, o), hp, rfl⟩)
    obtain ⟨⟨L', e2, hlt, hq⟩, _⟩ := hcq (b, o1) h2
    rw [e1] at e2; injection e2 with e2; subst e2
    exact ⟨o1, by rw [hg0]; exact h1, hlt, hq⟩
  ·rcases hKc e with e1 | ⟨p1, hp1, e1⟩ <;> rcases hKc e' with e2 | ⟨p2, hp2, e2⟩
   ·obtain ⟨x, _, rfl, rfl⟩ := startRho_some e1
    obtain ⟨y, _, rfl, rfl⟩ := startRho_some e2
    have : x = y := hB
    rw [this]
   ·obtain ⟨x, hx, rfl, rfl⟩ := startRho_some e1
    have hB : x = L'.B := hB
    exact absurd (hB ▸ hW.glob x hx) (hfree _ hp2 (hlive0 hp2 g' l') L' e2)
   ·obtain ⟨x, hx, rfl, rfl⟩ := startRho_some e2
    have hB : L.B = x := hB
    exact absurd (hB ▸ hW.glob x hx) (hfree _ hp1 (hlive0 hp1 g l) L e1)
   ·have k1 := hlive0 hp1 g l
    have k2 := hlive0 hp2 g' l'
    obtain ⟨b1, o1, q1, g1, r1, _, _, s1⟩ := hobjσ _ hp1 L e1
    obtain ⟨b2, o2, q2, g2, r2, _, _, s2⟩ := hobjσ _ hp2 L' e2
    have l1 : o1.live = true := by
     rcases s1 with s1 | s1 | ⟨_, s1, _⟩
     ·have s1 : p1 = .dead := s1
      rw [s1] at k1; cases k1
     ·exact (isDom_kind s1 k1).elim
     ·exact kindM_live s1
    have l2 : o2.live = true := by
     rcases s2 with s2 | s2 | ⟨_, s2, _⟩
     ·have s2 : p2 = .dead := s2
      rw [s2] at k2; cases k2
     ·exact (isDom_kind s2 k2).elim
     ·exact kindM_live s2
    have hbb := hs.inj b1 b2 L L' o1 o2 r1 r2 g1 g2 l1 l2 hB
    subst hbb
    exact hi2 _ hp1 _ hp2 (RT.get_nil _) (RT.get_nil _) (q1.trans q2.symm)
 have hglob : Glob P ρK := fun g hg => ⟨_, hKs (startRho_at h64 hg), rfl, rfl⟩
 have hargsK : RelL ρK r.args A := RelL.withinF (Rel.within hS' 20) hargs hrσ
 have hrunc := hrun c hc
 unfold startM at hrunc
 cases hb : bodyOf P f with
 | none => rw [hb, runF_eq] at hrunc; cases n <;> cases hrunc
 | some cd =>
 rw [hb, runF_eq] at hrunc
 refine (runAll_calls ⟨⟩ ⟨extOk_of_rows hR, hSum⟩ hF hs0 hglob hargsK hb hrunc).mono ?_
 rintro e w' ⟨ρ1, v, V, h1, rfl, hv, hs1, _, hpost⟩
 unfold covers at hpost
 generalize (uni r.preT r.tgtT h1 1000000 (cat (prsV 20 r.val v) (uniPre r.tgtT h1 r.pre)) RT.nil) = π at hpost
 unfold covB at hpost
 obtain ⟨hval, hpost⟩ := condB hpost
 obtain ⟨hcp, hpost⟩ := condB hpost
 obtain ⟨hcq2, hinj⟩ := condB hpost
 have hcp := covAll_spec hcp
 have hcq2 := covAll_spec hcq2
 obtain ⟨hinj1, hinj2⟩ := injK_spec hinj
 have hstand : ∀ a o', r.tgtT.get a = some o' → ∃ b o, trk r.preT r.tgtT π a = some b ∧ h1.get b = some o ∧ mO (trk r.preT r.tgtT π) o' o = true := fun a o' ht => by
  have key : ∀ p : Key × AObj, p.1 = a → (∃ o' b o, r.tgtT.get p.1 = some o' ∧ trk r.preT r.tgtT π p.1 = some b ∧ h1.get b = some o ∧ mO (trk r.preT r.tgtT π) o' o = true) → ∃ b o, trk r.preT r.tgtT π a = some b ∧ h1.get b = some o ∧ mO (trk r.preT r.tgtT π) o' o = true := by
   rintro p rfl ⟨o2, b, o, q1, q2, q3, q4⟩
   rw [ht] at q1; injection q1 with q1; subst q1
   exact ⟨b, o, q2, q3, q4⟩
  rcases putO_some ht with h2 | ⟨_, h2⟩
  ·exact key _ rfl (hcp _ h2)
  ·exact key _ rfl (hcq2 _ (hTs h2))
 -- the row's names behind the call
 let ρ2 : Rho := fun a => match r.tgtT.get a with
  | some _ => (trk r.preT r.tgtT π a).bind ρ1
  | none => none
 have hρ2 : ∀ {a o'}, r.tgtT.get a = some o' → ρ2 a = (trk r.preT r.tgtT π a).bind ρ1 := fun {a o'} e => by
  show (match r.tgtT.get a with | some _ => (trk r.preT r.tgtT π a).bind ρ1 | none => none) = _
  rw [e]
 have hf : ∀ a b L, trk r.preT r.tgtT π a = some b → ρ1 b = some L → ρ2 a = some L := fun a b L e e1 => by
  obtain ⟨⟨o, ho⟩, _⟩ := trk_some e
  rw [hρ2 ho, e]; exact e1
 have hpt : ∀ {a o}, r.preT.get a = some o → ∃ o', r.tgtT.get a = some o' := fun {a o} e => by
  cases ht : r.tgtT.get a with
  | some o' => exact ⟨o', rfl⟩
  | none =>
   exfalso
   by_cases hm : ∃ p ∈ r.post, p.1 = a
   ·obtain ⟨o', h2, _⟩ := putO_in (t := r.preT) hm
    have h2 : r.tgtT.get a = some o' := h2
    rw [ht] at h2; cases h2
   ·have h2 : r.tgtT.get a = r.preT.get a := putO_out fun p hp he => hm ⟨p, hp, he⟩
    rw [ht, e] at h2; cases h2
 have htpre : ∀ {a o}, r.preT.get a = some o → trk r.preT r.tgtT π a = some a := fun {a o} e => by
  obtain ⟨o', ht⟩ := hpt e
  unfold trk; rw [ht]; dsimp only; rw [e]
 -- a name of the row's start stays
 have hstay : ∀ {a o}, r.preT.get a = some o → ∃ b L, σ.get a = some b ∧ τ.get a = some b ∧ ρ b = some L ∧ ρ2 a = some L ∧ ρσ a = some L ∧ ∃ o2, h.get b = some o2 := fun {a o} e => by
  obtain ⟨L, e1⟩ := hρ (a, o) (hTs e)
  obtain ⟨b, o2, q1, q2, q3, _⟩ := hobjσ (a, o) (hTs e) L e1
  refine ⟨b, L, q1, hnew.sub _ _ q1, q3, hf a a L (htpre e) (hs1.sub a L ?_), e1, o2, q2⟩
  show ρK a = some L
  rw [hKp (a, o) (hTs e)]; exact e1
 have hnewp : ∀ {a o'}, r.tgtT.get a = some o' → r.preT.get a = none → ∃ b, τ.get a = some b ∧ σ.get a = none ∧ h.get b = none := fun {a o'} ht hp => by
  rcases putO_some ht with h2 | ⟨_, h2⟩
  ·obtain ⟨b, h3, h4⟩ := hpostN _ h2 hp
   exact ⟨b, h3, h4, (hnew.inj _ _ h3 h4).1⟩
  ·rw [show r.preT.get a = some o' from h2] at hp; cases hp
 let Nw : Key → Key → Prop := fun b a => r.preT.get a = none ∧ (∃ o', r.tgtT.get a = some o') ∧ τ.get a = some b
 have hNw : ∀ {b a a'}, Nw b a → Nw b a' → a = a' := fun {b a a'} ⟨h2, ⟨o, h3⟩, h4⟩ ⟨h5, ⟨o', h6⟩, h7⟩ => by
  obtain ⟨_, _, q1, _⟩ := hnewp h3 h2
  obtain ⟨_, _, q2, _⟩ := hnewp h6 h5
  exact hnew.two a a' b h4 h7 q1 q2
 have hNwf : ∀ {b a}, Nw b a → h.get b = none := fun {b a} ⟨h2, ⟨o, h3⟩, h4⟩ => by
  obtain ⟨b', q1, _, q2⟩ := hnewp h3 h2
  rw [h4] at q1; injection q1 with q1; rw [q1]; exact q2
 classical
 let ρ' : Rho := fun b => if hx : ∃ a, Nw b a then ρ2 hx.choose else ρ b
 have hρn : ∀ {b a}, Nw b a → ρ' b = ρ2 a := fun {b a} ha => by
  have hx : ∃ a, Nw b a := ⟨a, ha⟩
  show (if hx : ∃ a, Nw b a then ρ2 hx.choose else ρ b) = _
  rw [dif_pos hx, hNw hx.choose_spec ha]
 have hρo : ∀ {b}, (¬ ∃ a, Nw b a) → ρ' b = ρ b := fun {b} hx => by
  show (if hx : ∃ a, Nw b a then ρ2 hx.choose else ρ b) = _
  rw [dif_neg hx]
 have hρh : ∀ {b o}, h.get b = some o → ρ' b = ρ b := fun {b o} g => hρo fun ⟨a, ha⟩ => by rw [hNwf ha] at g; cases g
 have htK : ∀ {a b}, τ.get a = some b → tK τ a = b := fun {a b} e => by unfold tK; rw [e]
 have hback : ∀ a L, ρ2 a = some L → ρ' (tK τ a) = some L := fun a L e => by
  cases ht : r.tgtT.get a with
  | none =>
   have e : (match r.tgtT.get a with | some _ => (trk r.preT r.tgtT π a).bind ρ1 | none => none) = some L := e
   rw [ht] at e; cases e
  | some o' =>
   cases hp : r.preT.get a with
   | some o =>
    obtain ⟨b, L', _, h3, h4, h5, _, o2, h6⟩ := hstay hp
    rw [h5] at e; injection e with e; subst e
    rw [htK h3, hρh h6]; exact h4
   | none =>
    obtain ⟨b, h3, _, _⟩ := hnewp ht hp
    rw [htK h3, hρn ⟨hp, ⟨o', ht⟩, h3⟩]; exact e
 have hsub : Sub ρ ρ' := fun b L e => by
  obtain ⟨o, g, _⟩ := hs.obj b L e
  rw [hρh g]; exact e
 have htgt : ∀ {a o' L}, r.tgtT.get a = some o' → ρ2 a = some L → ∃ b o, trk r.preT r.tgtT π a = some b ∧ ρ1 b = some L ∧ h1.get b = some o ∧ mO (trk r.preT r.tgtT π) o' o = true ∧ L.B < w'.heap.size ∧ ObjRel F ρ1 L w'.heap[L.B]? o := fun {a o' L} ht e => by
  obtain ⟨b, o, q1, q2, q3⟩ := hstand a o' ht
  rw [hρ2 ht, q1] at e
  have e : ρ1 b = some L := e
  obtain ⟨o2, q4, q5, q6⟩ := hs1.obj b L e
  rw [q2] at q4; injection q4 with q4; subst q4
  exact ⟨b, o, q1, e, q2, q3, q5, q6⟩
 have hrel : ∀ {a o' L}, r.tgtT.get a = some o' → ρ2 a = some L → L.B < w'.heap.size ∧ ObjRel W0.F ρ' L w'.heap[L.B]? (rO (tK τ) o') ∧ (kindM o' = true → ¬ F L.B) := fun {a o' L} ht e => by
  obtain ⟨b, o, _, _, _, q3, q5, q6⟩ := htgt ht e
  exact ⟨q5, (rO_bwd hback (mO_ok hf q3 q6)).weak hFW, fun hk => mO_free q3 (kindM_live hk) q6⟩
 have hpostT : ∀ {p}, p ∈ r.post → (putO r.post RT.nil).get p.1 = some p.2 → r.tgtT.get p.1 = some p.2 := fun {p} hp e => by
  rw [← e]; exact putO_same ⟨p, hp, rfl⟩
 -- each name behind the call is one of the row's, or stays as it was
 have hclass : ∀ b L, ρ' b = some L → (∃ a o', r.tgtT.get a = some o' ∧ tK τ a = b ∧ ρ2 a = some L ∧ hh.get b = some (rO (tK τ) o')) ∨ (∃ o, ρ b = some L ∧ h.get b = some o ∧ hh.get b = some o ∧ (o.live = true → F L.B)) := fun b L e => by
  by_cases hx : ∃ a, Nw b a
  ·obtain ⟨a, ha⟩ := hx
   rw [hρn ha] at e
   obtain ⟨h2, ⟨o', h3⟩, h4⟩ := ha
   have hin : ∃ p ∈ r.post, tK τ p.1 = b := by
    rcases putO_some h3 with h5 | ⟨_, h5⟩
    ·exact ⟨_, h5, htK h4⟩
    ·rw [show r.preT.get a = some o' from h5] at h2; cases h2
   obtain ⟨p, hp, h5, h6, h7⟩ := hputin b hin
   have ht := hpostT hp h7
   have hpa : p.1 = a := by
    cases hpp : r.preT.get p.1 with
    | some o =>
     obtain ⟨b', _, _, q1, _, _, _, o2, q2⟩ := hstay hpp
     rw [htK q1] at h5; subst h5
     rw [hNwf ⟨h2, ⟨o', h3⟩, h4⟩] at q2; cases q2
    | none =>
     obtain ⟨b', q1, _, _⟩ := hnewp ht hpp
     rw [htK q1] at h5; subst h5
     exact hNw ⟨hpp, ⟨_, ht⟩, q1⟩ ⟨h2, ⟨o', h3⟩, h4⟩
   exact .inl ⟨a, p.2, by rw [← hpa]; exact ht, htK h4, e, h6⟩
  ·rw [hρo hx] at e
   obtain ⟨o, g, hlt, ho⟩ := hs.obj b L e
   by_cases hin : ∃ p ∈ r.post, tK τ p.1 = b
   ·obtain ⟨p, hp, h5, h6, h7⟩ := hputin b hin
    have ht := hpostT hp h7
    cases hpp : r.preT.get p.1 with
    | some op =>
     obtain ⟨b', L', _, q1, q3, q4, _, _⟩ := hstay hpp
     rw [htK q1] at h5; subst h5
     rw [e] at q3; injection q3 with q3; subst q3
     exact .inl ⟨p.1, p.2, ht, htK q1, q4, h6⟩
    | none =>
     exfalso
     obtain ⟨b', q1, _, q2⟩ := hnewp ht hpp
     rw [htK q1] at h5; subst h5
     rw [g] at q2; cases q2
   ·have hgo : hh.get b = some o := by
     rw [hputout b fun p hp he => hin ⟨p, hp, he⟩]; exact hnew.old b o g
    by_cases hpre : ∃ p ∈ r.pre, kindM p.2 = true ∧ σ.get p.1 = some b
    ·obtain ⟨p, hp, hk, hσ⟩ := hpre
     obtain ⟨b', L', q0, q1, q3, q4, q5, _⟩ := hstay (hT p hp)
     rw [hσ] at q0; injection q0 with q0; subst q0
     rw [e] at q3; injection q3 with q3; subst q3
     have ht : r.tgtT.get p.1 = some p.2 := by
      rw [← hT p hp]
      exact putO_out fun q hq he => hin ⟨q, hq, by rw [he]; exact htK q1⟩
     obtain ⟨b2, o2, u1, u2, _, _, _, u3⟩ := hobjσ p hp L q5
     rw [hσ] at u1; injection u1 with u1; subst u1
     rw [g] at u2; injection u2 with u2; subst u2
     rcases u3 with u3 | u3 | ⟨_, _, σ', u4, u5⟩
     ·rw [u3] at hk; cases hk
     ·exact (isDom_kind u3 hk).elim
     ·have hoe : o = rO (tK τ) p.2 := sO_eq (fun a c hac => htK (hnew.sub _ _ (u4 a c hac))) u5
      exact .inl ⟨p.1, p.2, ht, htK q1, q4, by rw [hgo, hoe]⟩
    ·refine .inr ⟨o, e, g, hgo, fun hl => ⟨hlt, fun p hp hk L' e' hB => hpre ⟨p, hp, hk, ?_⟩⟩⟩
     obtain ⟨b2, o2, u1, u2, u6, _, _, u3⟩ := hobjσ p hp L' e'
     have l2 : o2.live = true := by
      rcases u3 with u3 | u3 | ⟨_, u3, _⟩
      ·rw [u3] at hk; cases hk
      ·exact (isDom_kind u3 hk).elim
      ·exact kindM_live u3
     have := hs.inj b2 b L' L o2 o u6 e u2 g l2 hl hB
     rw [← this]; exact u1
 refine ⟨ρ', V, rfl, hsub, fun a o g e => ⟨by rw [hρh g]; exact e, ?_⟩, rV_bwd hback 20 _ _ (mV_ok hf 20 _ _ _ hval hv), hs1.os.trans hs.os, hs1.out.trans hs.out, Nat.le_trans hs.size hs1.size, fun a hA => (hs1.old a (hFW a hA)).trans (hs.old a hA), hs.sub.trans hsub, fun b L e => ?_, fun b1 b2 L1 L2 o1 o2 e1 e2 g1 g2 l1 l2 hB => ?_⟩
 ·rw [hputout a fun p hp he => ?_]
  ·exact hnew.old a o g
  ·obtain ⟨p', hp', h5, _, h7⟩ := hputin a ⟨p, hp, he⟩
   have ht := hpostT hp' h7
   cases hpp : r.preT.get p'.1 with
   | some op =>
    obtain ⟨b', L', _, q1, q3, _⟩ := hstay hpp
    rw [htK q1] at h5; subst h5
    rw [e] at q3; cases q3
   | none =>
    obtain ⟨b', q1, _, q2⟩ := hnewp ht hpp
    rw [htK q1] at h5; subst h5
    rw [g] at q2; cases q2
 ·rcases hclass b L e with ⟨a, o', ht, _, h3, h4⟩ | ⟨o, h2, h3, h4, h5⟩
  ·obtain ⟨q1, q2, _⟩ := hrel ht h3
   exact ⟨_, h4, q1, q2⟩
  ·obtain ⟨o2, g, hlt, ho⟩ := hs.obj b L h2
   rw [h3] at g; injection g with g; subst g
   refine ⟨o, h4, Nat.lt_of_lt_of_le hlt hs1.size, ?_⟩
   cases hl : o.live with
   | true =>
    rw [hs1.old _ (h5 hl)]
    exact ho.mono hsub
   | false =>
    cases o with
    | dead => trivial
    | dom ds => exact ho
    | ivl lo hi => exact ho
    | _ => simp [AObj.live] at hl
 ·rcases hclass b1 L1 e1 with ⟨a1, o1', ht1, u1, v1, y1⟩ | ⟨o1', u1, v1, y1, z1⟩ <;> rcases hclass b2 L2 e2 with ⟨a2, o2', ht2, u2, v2, y2⟩ | ⟨o2', u2, v2, y2, z2⟩
  ·rw [y1] at g1; injection g1 with g1; subst g1
   rw [y2] at g2; injection g2 with g2; subst g2
   obtain ⟨c1, p1, q1, r1, s1, m1, _, _⟩ := htgt ht1 v1
   obtain ⟨c2, p2, q2, r2, s2, m2, _, _⟩ := htgt ht2 v2
   have hbb := hs1.inj c1 c2 L1 L2 p1 p2 r1 r2 s1 s2 (mO_live m1 (kindM_live (rO_live' l1))) (mO_live m2 (kindM_live (rO_live' l2))) hB
   subst hbb
   have haa : a1 = a2 := by
    rcases (trk_some q1).2 with ⟨⟨x1, y1⟩, z1⟩ | ⟨y1, z1⟩ <;> rcases (trk_some q2).2 with ⟨⟨x2, y2⟩, z2⟩ | ⟨y2, z2⟩
    ·exact z1.symm.trans z2
    ·rcases putO_some ht2 with i0 | ⟨_, i0⟩
     ·obtain ⟨b', i1, i2, _⟩ := hinj1 _ i0 y2
      rw [z2] at i1; injection i1 with i1; subst i1
      rw [z1, y1] at i2; cases i2
     ·rw [show r.preT.get a2 = some o2' from i0] at y2; cases y2
    ·rcases putO_some ht1 with i0 | ⟨_, i0⟩
     ·obtain ⟨b', i1, i2, _⟩ := hinj1 _ i0 y1
      rw [z1] at i1; injection i1 with i1; subst i1
      rw [z2, y2] at i2; cases i2
     ·rw [show r.preT.get a1 = some o1' from i0] at y1; cases y1
    ·rcases putO_some ht1 with i0 | ⟨_, i0⟩
     ·rcases putO_some ht2 with j0 | ⟨_, j0⟩
      ·exact hinj2 _ i0 _ j0 y1 y2 (by rw [z1, z2])
      ·rw [show r.preT.get a2 = some o2' from j0] at y2; cases y2
     ·rw [show r.preT.get a1 = some o1' from i0] at y1; cases y1
   rw [← u1, ← u2, haa]
  ·exfalso
   rw [y1] at g1; injection g1 with g1; subst g1
   rw [y2] at g2; injection g2 with g2; subst g2
   exact (hrel ht1 v1).2.2 (rO_live' l1) (hB ▸ z2 l2)
  ·exfalso
   rw [y1] at g1; injection g1 with g1; subst g1
   rw [y2] at g2; injection g2 with g2; subst g2
   exact (hrel ht2 v2).2.2 (rO_live' l2) (hB ▸ z1 l1)
  ·rw [y1] at g1; injection g1 with g1; subst g1
   rw [y2] at g2; injection g2 with g2; subst g2
   exact hs.inj b1 b2 L1 L2 o1' o2' u1 u2 v1 v2 l1 l2 hB
def RowRunsX (P : Program) (laid : List (Nat × AObj)) (f : Nat) (k : Key) (r : MRow) : Prop := r.okX P laid = true ∧ ∃ n, ∀ c ∈ picks r.pre, runF P (covers r) n (startM P laid f r.args c k) = true
omit H in
theorem mrowX_some {args : List AV} {h : Heap} {x : AV × Heap} : ∀ {rows : List MRow}, mrowX args h rows = some x → ∃ r, r ∈ rows ∧ applyX r args h = some x
 | [], e => by cases e
 | r :: rs, e => by
  unfold mrowX at e
  cases ha : applyX r args h with
  | some y =>
   rw [ha] at e
   have e : some y = some x := e
   exact ⟨r, List.mem_cons_self .., by rw [ha, e]⟩
  | none =>
   rw [ha] at e
   obtain ⟨q, h1, h2⟩ := mrowX_some (rows := rs) e
   exact ⟨q, List.mem_cons_of_mem _ h1, h2⟩
theorem mprimX_ok (hR : RowsOk P) (hF : P.follows .mixedOrders = true) (h64 : P.globals.size ≤ 64) {laid : List (Nat × AObj)} {tot : Nat → Nat} {f : Nat} {k : Key} {rows : List MRow} (hrows : ∀ r ∈ rows, RowRunsX P laid f k r) {b : Base} (hW : b.Keeps P laid tot)
  (hS : ∀ b' : Base, b'.Keeps P laid tot → (∀ g v, g < P.globals.size → b.w.cell? ⟨g, 0, none⟩ = some v → b'.w.cell? ⟨g, 0, none⟩ = some v) → SumOk P b') : PrimOk P b f (fun args h => mrowX args h rows) := by
 intro ρ h w args A v h' hs hr he
 obtain ⟨r, hm, ha⟩ := mrowX_some he
 obtain ⟨hok, n, hrun⟩ := hrows r hm
 exact mrowX_ok hR hF h64 hW hS hok hrun hs hr ha
noncomputable def rowsX (P : Program) (laid : List (Nat × AObj)) (f : Nat) (k : Key) (n : Nat) : List MRow → Bool
 | [] => true
 | r :: rs => cond (r.okX P laid) (cond ((picks r.pre).all fun c => runF P (covers r) n (startM P laid f r.args c k)) (rowsX P laid f k n rs) false) false
theorem rowsX_ok {laid : List (Nat × AObj)} {f n : Nat} {k : Key} : ∀ {rs : List MRow}, rowsX P laid f k n rs = true → ∀ r ∈ rs, RowRunsX P laid f k r
 | [], _, r, hr => by cases hr
 | q :: rs, h, r, hr => by
  unfold rowsX at h
  obtain ⟨h1, h⟩ := condB h
  obtain ⟨h2, h3⟩ := condB h
  cases hr with
  | head => exact ⟨h1, n, List.all_eq_true.1 h2⟩
  | tail _ hr => exact rowsX_ok h3 r hr
end
end Go.VM
namespace Go.VM
noncomputable def updS (l : List (Key × AObj)) : RT AObj → RT AObj := List.rec (motive := fun _ => RT AObj → RT AObj) (fun t => t) (fun p _ ih t => setKK p.2 p.1 t (fun t => ih t)) l
noncomputable def lrS (S : RT AObj) (keep : AObj → Bool) (ih : List Key → RT Key → List (Key × AObj)) (todo : List Key) (seen : RT Key) : List (Key × AObj) := match todo with
 | [] => []
 | b :: r => match seen.get b with
  | some _ => ih r seen
  | none => match S.get b with
   | some o => cond (keep o) (setKK b b seen (fun seen => (b, o) :: ih (cat r (ksO o)) seen)) (ih r seen)
   | none => ih r seen
noncomputable def lrN (S : RT AObj) (keep : AObj → Bool) (n : Nat) : List Key → RT Key → List (Key × AObj) := Nat.rec (motive := fun _ => List Key → RT Key → List (Key × AObj)) (fun _ _ => []) (fun _ ih => lrS S keep ih) n
noncomputable def lr (S : RT AObj) (args : List AV) : List (Key × AObj) := lrN S (fun _ => true) 100000 (ksL (ksV 20) args) RT.nil
def memN (n : Nat) : List Nat → Bool
 | [] => false
 | a :: r => cond (Nat.beq a n) true (memN n r)
def isCp (ts : List Nat) (o : AObj) : Bool := match o with
 | .cells e _ _ _ => memN e ts
 | .map _ _ => true
 | .lmap _ => true
 | _ => false
def shK (k : Key) : Key := match k with | ⟨a, b, c, d, _⟩ => ⟨a, b, c, d, .d2⟩
noncomputable def shL : List (Key × AObj) → RT Key → RT Key
 | [], t => t
 | p :: r, t => setKK (shK p.1) p.1 t (fun t => shL r t)
noncomputable def shKs : List Key → RT Key → RT Key
 | [], t => t
 | b :: r, t => setKK (shK b) b t (fun t => shKs r t)
noncomputable def rnP (R : RT Key) : List (Key × AObj) → List (Key × AObj)
 | [] => []
 | p :: r => (tK R p.1, rO (tK R) p.2) :: rnP R r
noncomputable def rnKs (R : RT Key) (T : RT AObj) : List Key → List (Key × AObj)
 | [] => []
 | b :: r => match T.get b with
  | some o => (tK R b, rO (tK R) o) :: rnKs R T r
  | none => rnKs R T r
noncomputable def dR (ts : List Nat) (m : Key) (S T : RT AObj) (args : List AV) (val : AV) (R C : List Key) (E : List (Key × AObj)) : MRow :=
 (fun cp : List (Key × AObj) => (fun Rt : RT Key => MRow.mk args (lr S args) val (cat (rnP Rt cp) (cat (rnKs Rt T R) (cat (rnKs Rt T C) E)))) (shKs R (shL cp RT.nil))) (lrN T (isCp ts) 100000 [m] RT.nil)
def notDom (o : AObj) : Bool := match o with
 | .dom _ => false
 | _ => true
noncomputable def tR (S : RT AObj) (n : Key) : MRow :=
 (fun L : List (Key × AObj) => MRow.mk [.ptr n 0] (lr S [.ptr n 0]) (.ptr (shK n) 0) (rnP (shL L RT.nil) L)) (lrN S notDom 100000 [n] RT.nil)
noncomputable def cR (ts : List Nat) (t : Key) (S : RT AObj) (n : Key) : MRow :=
 (fun S : RT AObj => (fun cp : List (Key × AObj) => MRow.mk [.ptr n 0] (lr S [.ptr n 0]) (.ptr (shK n) 0) (rnP (shL cp RT.nil) cp)) (lrN S (isCp ts) 100000 [n] RT.nil)) (S.set .dead t)
noncomputable def nR (T : RT AObj) (args : List AV) (val : AV) (t : Key) : MRow := MRow.mk args [] val (lr T [.ptr t 0])
end Go.VM
