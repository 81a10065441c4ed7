/- Rows that turn memory: what a callee leaves behind, told under other names. No conditions: a library text of the proof. -/
import Derived.Test.YtocphdopmdiciaaGreatDoorVI
import Derived.Lib.SlBy
namespace Go.VM
/-! a heap told anew: keys renamed, what is not needed left out -/
def isK (x : Option Key) (b : Key) : Bool := match x with
  | some a => Key.same a b
  | none => false
def mLs (g : AV → AV → Bool) : List AV → List AV → Bool
  | [], [] => true
  | a :: x, b :: y => cond (g a b) (mLs g x y) false
  | _, _ => false
/-- does the first tell of the second, each key told as another one? -/
def mV (f : Key → Option Key) : Nat → AV → AV → Bool
  | 0, _, _ => false
  | d + 1, x, y => match x with
    | .junk => true
    | .ustr l => (match y with | .ustr m => Nat.beq l m | .str m _ => Nat.beq l m | _ => false)
    | .bool a => (match y with | .bool b => a == b | _ => false)
    | .int k a => (match y with | .int k' b => cond (Nat.beq (kindNo k) (kindNo k')) (intEq a b) false | _ => false)
    | .float .f64 a => (match y with | .float .f64 b => Nat.beq a b | _ => false)
    | .str l a => (match y with | .str m b => cond (Nat.beq l m) (Nat.beq a b) false | _ => false)
    | .nilPtr => (match y with | .nilPtr => true | _ => false)
    | .ptr a o => (match y with | .ptr b q => cond (isK (f a) b) (Nat.beq o q) false | _ => false)
    | .nilSlice => (match y with | .nilSlice => true | _ => false)
    | .emptyS => (match y with | .emptyS => true | _ => false)
    | .slice a o l c => (match y with | .slice b q m e => cond (isK (f a) b) (cond (Nat.beq o q) (cond (Nat.beq l m) (beqCap c e) false) false) false | _ => false)
    | .nilMap => (match y with | .nilMap => true | _ => false)
    | .map a => (match y with | .map b => isK (f a) b | _ => false)
    | .nilFunc => (match y with | .nilFunc => true | _ => false)
    | .nilIface => (match y with | .nilIface => true | _ => false)
    | .iface t a => (match y with | .iface u b => cond (Nat.beq t u) (mV f d a b) false | _ => false)
    | .func (.func g) a b => (match y with | .func (.func g') x' y' => cond (Nat.beq g g') (cond (mLs (mV f d) a x') (mLs (mV f d) b y') false) false | _ => false)
    | .agg a => (match y with | .agg b => mLs (mV f d) a b | _ => false)
    | .tup a => (match y with | .tup b => mLs (mV f d) a b | _ => false)
    | .undef => (match y with | .undef => true | _ => false)
    | _ => false
def mEs (f : Key → Option Key) : List (AV × AV × Nat) → List (AV × AV × Nat) → Bool
  | [], [] => true
  | a :: x, b :: y => cond (mV f 20 a.1 b.1) (cond (mV f 20 a.2.1 b.2.1) (cond (Nat.beq a.2.2 b.2.2) (mEs f x y) false) false) false
  | _, _ => false
def consE (e : AV × AV) (x : Option (List (AV × AV))) : Option (List (AV × AV)) := match x with
  | some l => some (e :: l)
  | none => none
def takeE (f : Key → Option Key) (k v : AV) : List (AV × AV) → Option (List (AV × AV))
  | [] => none
  | e :: r => cond (cond (mV f 20 k e.1) (mV f 20 v e.2) false) (some r) (consE e (takeE f k v r))
def lmGo (f : Key → Option Key) : List (AV × AV) → List (AV × AV) → Bool
  | [], [] => true
  | [], _ :: _ => false
  | e :: r, l => match takeE f e.1 e.2 l with
    | some l' => lmGo f r l'
    | none => false
def stripE : List (AV × AV × Nat) → List (AV × AV)
  | [] => []
  | e :: r => (e.1, e.2.1) :: stripE r
def anyV (f : Key → Option Key) (es : List (AV × AV × Nat)) (c : Nat) : List (List (AV × AV × Nat) × Nat) → Bool
  | [] => false
  | v :: r => cond (cond (Nat.beq v.2 c) (mEs f v.1 es) false) true (anyV f es c r)
def allV (f : Key → Option Key) (vs : List (List (AV × AV × Nat) × Nat)) : List (List (AV × AV × Nat) × Nat) → Bool
  | [] => true
  | v :: r => cond (anyV f v.1 v.2 vs) (allV f vs r) false
def mO (f : Key → Option Key) (o' o : AObj) : Bool := match o' with
  | .dead => true
  | .cells e cs opn fz => (match o with | .cells e2 cs2 opn2 fz2 => cond (Nat.beq e e2) (cond (beqB opn opn2) (cond (Nat.beq fz fz2) (mLs (mV f 20) cs cs2) false) false) false | _ => false)
  | .map es c => (match o with | .map es2 c2 => cond (Nat.beq c c2) (mEs f es es2) false | _ => false)
  | .lmap es => (match o with
    | .lmap es2 => lmGo f es es2
    | .map es2 c => cond (bornOk c es2) (lmGo f es (stripE es2)) false
    | .smap es2 _ => lmGo f es (stripK es2)
    | _ => false)
  | .mapAlt vs => (match o with
    | .map es c => anyV f es c vs
    | .mapAlt vs2 => allV f vs vs2
    | _ => false)
  | .bits e n c => (match o with
    | .bits e2 n2 c2 => cond (Nat.beq e e2) (cond (Nat.beq n n2) (Nat.beq c c2) false) false
    | _ => false)
  | .bytes e n => (match o with
    | .bytes e2 n2 => cond (Nat.beq e e2) (Nat.beq n n2) false
    | .pack e2 k _ => cond (Nat.beq e e2) (Nat.beq n (256 * k)) false
    | _ => false)
  | _ => false
section
variable {f : Key → Option Key} {ρ ρ' : Rho}
theorem isK_is {x : Option Key} {b : Key} (h : isK x b = true) : x = some b := by
  cases x with
  | none => cases h
  | some a => rw [(Key.same_iff _ _).1 (show Key.same a b = true from h)]
theorem mLs_len {g : AV → AV → Bool} : ∀ {x y : List AV}, mLs g x y = true → x.length = y.length
  | [], [], _ => rfl
  | a :: x, b :: y, h => by
    unfold mLs at h
    obtain ⟨_, h2⟩ := condB h
    simp [mLs_len h2]
  | [], _ :: _, h => by cases h
  | _ :: _, [], h => by cases h
theorem mLs_ok {g : AV → AV → Bool} (hg : ∀ x y V, g x y = true → Rel ρ y V → Rel ρ' x V) : ∀ {x y : List AV} {Y : List Value}, mLs g x y = true → RelL ρ y Y → RelL ρ' x Y
  | [], [], _, _, h => by cases h; exact .nil
  | a :: x, b :: y, _, hm, h => by
    unfold mLs at hm
    obtain ⟨h1, h2⟩ := condB hm
    cases h with
    | cons _ V _ R hv hr => exact .cons a V x R (hg a b V h1 hv) (mLs_ok hg h2 hr)
  | [], _ :: _, _, h, _ => by cases h
  | _ :: _, [], _, h, _ => by cases h
theorem mV_ok (hf : ∀ a b L, f a = some b → ρ b = some L → ρ' a = some L) : ∀ (d : Nat) (x y : AV) (V : Value), mV f d x y = true → Rel ρ y V → Rel ρ' x V
  | 0, _, _, _, h, _ => by cases h
  | d + 1, x, y, V, h, hr => by
    have ih := mV_ok hf d
    unfold mV at h
    split at h
    · exact .junk V
    · split at h
      · obtain rfl := Nat.eq_of_beq_eq_true h
        cases hr with | ustr l s hl => exact .ustr _ s hl
      · obtain rfl := Nat.eq_of_beq_eq_true h
        cases hr with | str l c hc => exact .ustr _ _ (strOf_size _ _)
      · cases h
    · split at h
      · obtain rfl : _ = _ := by simpa using h
        cases hr; exact .bool _
      · cases h
    · split at h
      · obtain ⟨h1, h2⟩ := condB h
        obtain rfl := kindNo_inj h1
        obtain rfl := (intEq_iff _ _).1 h2
        cases hr; exact .int _ _
      · cases h
    · split at h
      · obtain rfl := Nat.eq_of_beq_eq_true h
        cases hr; exact .float _ _
      · cases h
    · split at h
      · obtain ⟨h1, h2⟩ := condB h
        obtain rfl := Nat.eq_of_beq_eq_true h1
        obtain rfl := Nat.eq_of_beq_eq_true h2
        cases hr with | str _ _ hc => exact .str _ _ hc
      · cases h
    · split at h
      · cases hr; exact .nilPtr
      · cases h
    · split at h
      · obtain ⟨h1, h2⟩ := condB h
        obtain rfl := Nat.eq_of_beq_eq_true h2
        cases hr with | ptr _ _ L hb => exact .ptr _ _ L (hf _ _ L (isK_is h1) hb)
      · cases h
    · split at h
      · cases hr; exact .nilSlice
      · cases h
    · split at h
      · cases hr; exact .emptyS _ _
      · cases h
    · split at h
      · obtain ⟨h1, h⟩ := condB h
        obtain ⟨h2, h⟩ := condB h
        obtain ⟨h3, h4⟩ := condB h
        obtain rfl := Nat.eq_of_beq_eq_true h2
        obtain rfl := Nat.eq_of_beq_eq_true h3
        obtain rfl := beqCap_eq h4
        cases hr with
        | sliceIs _ _ _ c L hb => exact .sliceIs _ _ _ c L (hf _ _ L (isK_is h1) hb)
        | sliceMore _ _ _ c sz L hb hc ht => exact .sliceMore _ _ _ c sz L (hf _ _ L (isK_is h1) hb) hc ht
      · cases h
    · split at h
      · cases hr; exact .nilMap
      · cases h
    · split at h
      · cases hr with | map _ L hb => exact .map _ L (hf _ _ L (isK_is h) hb)
      · cases h
    · split at h
      · cases hr; exact .nilFunc
      · cases h
    · split at h
      · cases hr; exact .nilIface
      · cases h
    · split at h
      · obtain ⟨h1, h2⟩ := condB h
        obtain rfl := Nat.eq_of_beq_eq_true h1
        cases hr with | iface t v W hv => exact .iface _ _ W (ih _ _ W h2 hv)
      · cases h
    · split at h
      · obtain ⟨h1, h⟩ := condB h
        obtain ⟨h2, h3⟩ := condB h
        obtain rfl := Nat.eq_of_beq_eq_true h1
        cases hr with | func _ _ _ A B ha hb => exact .func _ _ _ A B (mLs_ok ih h2 ha) (mLs_ok ih h3 hb)
      · cases h
    · split at h
      · cases hr with | agg _ A ha => exact .agg _ A (mLs_ok ih h ha)
      · cases h
    · split at h
      · cases hr with
        | tup _ A ha => exact .tup _ A (mLs_ok ih h ha)
      · cases h
    · split at h
      · cases hr; exact .undef
      · cases h
    · cases h
theorem mEs_ok (hf : ∀ a b L, f a = some b → ρ b = some L → ρ' a = some L) : ∀ {x y : List (AV × AV × Nat)} {E : List MapEntry}, mEs f x y = true → ERel ρ y E → ERel ρ' x E
  | [], [], _, _, h => by cases h; exact .nil
  | (k, v, c) :: x, (k', v', c') :: y, _, hm, h => by
    unfold mEs at hm
    obtain ⟨h1, hm⟩ := condB hm
    obtain ⟨h2, hm⟩ := condB hm
    obtain ⟨h3, hm⟩ := condB hm
    have h3 : c = c' := Nat.eq_of_beq_eq_true h3
    have hm2 : mEs f x y = true := hm
    subst h3
    cases h with
    | cons _ _ K V _ _ R hk hv hr => exact .cons k v K V c x R (mV_ok hf 20 _ _ _ h1 hk) (mV_ok hf 20 _ _ _ h2 hv) (mEs_ok hf hm2 hr)
  | [], _ :: _, _, h, _ => by cases h
  | _ :: _, [], _, h, _ => by cases h
inductive F2 {α β : Type} (M : α → β → Prop) : List α → List β → Prop where
  | nil : F2 M [] []
  | cons {a : α} {b : β} {x : List α} {y : List β} (h : M a b) (hr : F2 M x y) : F2 M (a :: x) (b :: y)
theorem F2.perm {α β : Type} {M : α → β → Prop} {l1 l2 : List β} (hp : l1.Perm l2) : ∀ {es : List α}, F2 M es l2 → ∃ es1, es1.Perm es ∧ F2 M es1 l1 := by
  induction hp with
  | nil => intro es h; exact ⟨es, .refl _, h⟩
  | cons x _ ih =>
    intro es h
    cases h with
    | cons hm hr =>
      obtain ⟨es1, h1, h2⟩ := ih hr
      exact ⟨_ :: es1, h1.cons _, .cons hm h2⟩
  | swap x y l =>
    intro es h
    cases h with
    | cons hm hr => cases hr with
      | cons hm2 hr2 => exact ⟨_, List.Perm.swap _ _ _, .cons hm2 (.cons hm hr2)⟩
  | trans _ _ ih1 ih2 =>
    intro es h
    obtain ⟨es1, h1, h2⟩ := ih2 h
    obtain ⟨es2, h3, h4⟩ := ih1 h2
    exact ⟨es2, h3.trans h1, h4⟩
def ME (f : Key → Option Key) (e x : AV × AV) : Prop := mV f 20 e.1 x.1 = true ∧ mV f 20 e.2 x.2 = true
theorem takeE_some {k v : AV} : ∀ {l l' : List (AV × AV)}, takeE f k v l = some l' → ∃ e, l.Perm (e :: l') ∧ ME f (k, v) e
  | [], _, h => by cases h
  | e :: r, l', h => by
    unfold takeE at h
    cases hc : cond (mV f 20 k e.1) (mV f 20 v e.2) false with
    | true =>
      rw [hc] at h
      have h : some r = some l' := h
      injection h with h; subst h
      exact ⟨e, .refl _, condB hc⟩
    | false =>
      rw [hc] at h
      have h : consE e (takeE f k v r) = some l' := h
      cases ht : takeE f k v r with
      | none => rw [ht] at h; cases h
      | some l2 =>
        rw [ht] at h
        have h : some (e :: l2) = some l' := h
        injection h with h; subst h
        obtain ⟨x, hp, hm⟩ := takeE_some ht
        exact ⟨x, (hp.cons e).trans (List.Perm.swap _ _ _), hm⟩
theorem lmGo_ok : ∀ {es l : List (AV × AV)}, lmGo f es l = true → ∃ l2, l.Perm l2 ∧ F2 (ME f) es l2
  | [], [], _ => ⟨[], .refl _, .nil⟩
  | [], _ :: _, h => by cases h
  | e :: r, l, h => by
    unfold lmGo at h
    split at h
    · rename_i l' ht
      obtain ⟨x, hp, hm⟩ := takeE_some ht
      obtain ⟨l2, hp2, h2⟩ := lmGo_ok h
      exact ⟨x :: l2, hp.trans (hp2.cons x), .cons hm h2⟩
    · cases h
theorem F2.erel (hf : ∀ a b L, f a = some b → ρ b = some L → ρ' a = some L) : ∀ {es1 : List (AV × AV)} {esa : List (AV × AV × Nat)} {E : List MapEntry}, F2 (ME f) es1 (esa.map strip) → ERel ρ esa E → ∃ es2 : List (AV × AV × Nat), es2.map strip = es1 ∧ ERel ρ' es2 E
  | es1, [], _, h2, he => by cases he; cases h2; exact ⟨[], rfl, .nil⟩
  | es1, (k, v, c) :: r, _, h2, he => by
    cases he with
    | cons _ _ K V _ _ R hk hv hr =>
      cases h2 with
      | @cons a _ x _ hm h2 =>
        obtain ⟨es2, h3, h4⟩ := F2.erel hf h2 hr
        obtain ⟨k', v'⟩ := a
        exact ⟨(k', v', c) :: es2, by rw [List.map_cons, h3]; rfl, .cons k' v' K V c es2 R (mV_ok hf 20 _ _ _ hm.1 hk) (mV_ok hf 20 _ _ _ hm.2 hv) h4⟩
theorem lmGo_rel (hf : ∀ a b L, f a = some b → ρ b = some L → ρ' a = some L) {es l : List (AV × AV)} {E : List MapEntry} (hm : lmGo f es l = true) (h : LRel ρ l E) : LRel ρ' es E := by
  obtain ⟨esa, hp, he⟩ := h
  obtain ⟨l2, hp2, h2⟩ := lmGo_ok hm
  obtain ⟨es1, hq, h3⟩ := F2.perm (hp.trans hp2) h2
  obtain ⟨es2, h4, h5⟩ := F2.erel hf h3 he
  exact ⟨es2, by show (es2.map strip).Perm es; rw [h4]; exact hq, h5⟩
theorem stripE_eq : ∀ es : List (AV × AV × Nat), stripE es = es.map strip
  | [] => rfl
  | e :: r => by rw [List.map_cons, ← stripE_eq r]; rfl
theorem stamp_of {es : List (AV × AV × Nat)} {E : List MapEntry} {c : Nat} (he : ERel ρ es E) (hb : bornOk c es = true) : Stamp E c := by
  obtain ⟨hb1, hb2⟩ := condB (show cond (allLt c (bornsOf es)) (nodupN (bornsOf es)) false = true from hb)
  refine ⟨fun e hm => ?_, ?_⟩
  · have h1 : e.born ∈ E.map (·.born) := List.mem_map.2 ⟨e, hm, rfl⟩
    rw [he.borns, ← bornsOf_eq] at h1
    exact allLt_spec hb1 _ h1
  · rw [he.borns, ← bornsOf_eq]; exact nodupN_spec hb2
theorem anyV_ok {es : List (AV × AV × Nat)} {c : Nat} : ∀ {vs : List (List (AV × AV × Nat) × Nat)}, anyV f es c vs = true → ∃ v ∈ vs, v.2 = c ∧ mEs f v.1 es = true
  | [], h => by cases h
  | v :: r, h => by
    unfold anyV at h
    cases hc : cond (Nat.beq v.2 c) (mEs f v.1 es) false with
    | true =>
      obtain ⟨h1, h2⟩ := condB hc
      exact ⟨v, List.mem_cons_self .., Nat.eq_of_beq_eq_true h1, h2⟩
    | false =>
      rw [hc] at h
      obtain ⟨x, hx, h1⟩ := anyV_ok (vs := r) h
      exact ⟨x, List.mem_cons_of_mem _ hx, h1⟩
theorem allV_ok {vs : List (List (AV × AV × Nat) × Nat)} : ∀ {vs2 : List (List (AV × AV × Nat) × Nat)}, allV f vs vs2 = true → ∀ v ∈ vs2, anyV f v.1 v.2 vs = true
  | [], _, v, hv => by cases hv
  | x :: r, h, v, hv => by
    unfold allV at h
    obtain ⟨h1, h2⟩ := condB h
    cases hv with
    | head => exact h1
    | tail _ hv => exact allV_ok h2 v hv
theorem pack_bytes {N : Nat → Prop} {L : Loc} {O : Option Obj} {e k : Nat} {t : RT Nat} (h : ObjRel N ρ L O (.pack e k t)) : ObjRel N ρ L O (.bytes e (256 * k)) := by
  have hall : ∀ k, allByte (packCells t k) = true := by
    have happ : ∀ a b, allByte a = true → allByte b = true → allByte (a ++ b) = true := by
      intro a b ha hb
      induction a with
      | nil => exact hb
      | cons x r ih =>
        cases x with
        | int kk n =>
          cases kk <;> cases n <;> simp [allByte] at ha
          rename_i n
          show cond (Nat.blt n 256) (allByte (r ++ b)) false = true
          have h1 : Nat.blt n 256 = true := by rw [Nat.blt_eq]; exact ha.1
          rw [h1, ih ha.2]; rfl
        | _ => simp [allByte] at ha
    intro k
    induction k with
    | zero => rfl
    | succ k ih => rw [packCells, cat_eq]; exact happ _ _ ih (allByte_bytes _ _)
  exact to_bytes (by rw [packCells_len]) (hall k) h
theorem mO_ok (hf : ∀ a b L, f a = some b → ρ b = some L → ρ' a = some L) {N : Nat → Prop} {L : Loc} {O : Option Obj} {o' o : AObj} (hm : mO f o' o = true) (h : ObjRel N ρ L O o) : ObjRel N ρ' L O o' := by
  unfold mO at hm
  split at hm
  · exact trivial
  · split at hm
    · obtain ⟨h1, q1⟩ := condB hm
      obtain ⟨h2, q2⟩ := condB q1
      obtain ⟨h3, q3⟩ := condB q2
      obtain rfl := Nat.eq_of_beq_eq_true h1
      obtain rfl := beqB_is h2
      obtain rfl := Nat.eq_of_beq_eq_true h3
      have hl := mLs_len q3
      obtain ⟨a, C, q, e1, e2, e3, ⟨e4, e5⟩, e6, e7⟩ := h
      exact ⟨a, C, q, e1, e2, e3, ⟨by rw [hl]; exact e4, by rw [hl]; exact mLs_ok (mV_ok hf 20) q3 e5⟩, fun x => by rw [hl]; exact e6 x, e7⟩
    · cases hm
  · split at hm
    · obtain ⟨h1, q1⟩ := condB hm
      obtain rfl := Nat.eq_of_beq_eq_true h1
      obtain ⟨a, E, e1, e2⟩ := h
      exact ⟨a, E, e1, mEs_ok hf q1 e2⟩
    · cases hm
  · split at hm
    · obtain ⟨a, E, c, e1, e2, e3⟩ := h
      exact ⟨a, E, c, e1, lmGo_rel hf hm e2, e3⟩
    · obtain ⟨h1, hm⟩ := condB hm
      obtain ⟨a, E, e1, e2⟩ := h
      refine ⟨a, E, _, e1, lmGo_rel hf hm ⟨_, ?_, e2⟩, stamp_of e2 h1⟩
      rw [stripE_eq]
      exact .refl _
    · obtain ⟨a, E, c, _, e1, ⟨x, y, k1, k2, k3⟩, e3⟩ := h
      refine ⟨a, E, c.base, e1, lmGo_rel hf hm ⟨x, ?_, k3⟩, e3⟩
      rw [← stripK_eq k1]
      exact k2.map _
    · cases hm
  · split at hm
    · obtain ⟨v, hv, h1, h2⟩ := anyV_ok hm
      obtain ⟨a, E, e1, e2⟩ := h
      exact ⟨a, v, hv, E, by rw [h1]; exact e1, mEs_ok hf h2 e2⟩
    · obtain ⟨a, x, hx, E, e1, e2⟩ := h
      obtain ⟨v, hv, h1, h2⟩ := anyV_ok (allV_ok hm x hx)
      exact ⟨a, v, hv, E, by rw [h1]; exact e1, mEs_ok hf h2 e2⟩
    · cases hm
  · split at hm
    · obtain ⟨h1, q1⟩ := condB hm
      obtain ⟨h2, h3⟩ := condB q1
      obtain rfl := Nat.eq_of_beq_eq_true h1
      obtain rfl := Nat.eq_of_beq_eq_true h2
      obtain rfl := Nat.eq_of_beq_eq_true h3
      obtain ⟨a, C, q, e1, f1, g1, k1, i1, j1⟩ := h
      exact ⟨a, C, q, e1, f1, g1, ⟨k1.1, bits_rel k1.2⟩, i1, j1⟩
    · cases hm
  · split at hm
    · obtain ⟨h1, h2⟩ := condB hm
      obtain rfl := Nat.eq_of_beq_eq_true h1
      obtain rfl := Nat.eq_of_beq_eq_true h2
      exact h
    · obtain ⟨h1, h2⟩ := condB hm
      obtain rfl := Nat.eq_of_beq_eq_true h1
      obtain rfl := Nat.eq_of_beq_eq_true h2
      obtain ⟨a1, a2, a3, zs, a4, a5⟩ := pack_bytes h
      exact ⟨a1, a2, a3, zs, a4, a5⟩
    · cases hm
  · cases hm
/-- what is told as alive is alive -/
theorem mO_live {o' o : AObj} (hm : mO f o' o = true) (hl : o'.live = true) : o.live = true := by
  unfold mO at hm
  split at hm
  · cases hl
  all_goals first
    | (split at hm <;> first | rfl | cases hm)
    | cases hm
/-- and is none of what stays -/
theorem mO_free {N : Nat → Prop} {L : Loc} {O : Option Obj} {o' o : AObj} (hm : mO f o' o = true) (hl : o'.live = true) (h : ObjRel N ρ L O o) : ¬ N L.B := by
  unfold mO at hm
  split at hm
  · cases hl
  all_goals first
    | (split at hm <;> first | exact h.1 | cases hm)
    | cases hm
end
end Go.VM
namespace Go.VM
/-! rows that turn memory: what must be there, what is answered, what is there then -/
structure MRow where
  args : List AV
  pre : List (Key × AObj)
  val : AV
  post : List (Key × AObj)
noncomputable def putO : List (Key × AObj) → RT AObj → RT AObj
  | [], t => t
  | p :: r, t => putO r (t.set p.2 p.1)
noncomputable def MRow.preT (r : MRow) : RT AObj := putO r.pre RT.nil
noncomputable def MRow.tgtT (r : MRow) : RT AObj := putO r.post r.preT
noncomputable def trk (preT tgtT : RT AObj) (π : RT Key) (b : Key) : Option Key := match tgtT.get b with
  | none => none
  | some _ => match preT.get b with
    | some _ => some b
    | none => π.get b
noncomputable def covAll (f : Key → Option Key) (tgtT : RT AObj) (h : Heap) : List (Key × AObj) → Bool
  | [] => true
  | p :: r => match tgtT.get p.1, f p.1 with
    | some o', some b => (match h.get b with
      | some o => cond (mO f o' o) (covAll f tgtT h r) false
      | none => false)
    | _, _ => false
noncomputable def injK (π : RT Key) (preT : RT AObj) : List (Key × AObj) → RT Key → Bool
  | [], _ => true
  | p :: r, inv => match preT.get p.1 with
    | some _ => injK π preT r inv
    | none => match π.get p.1 with
      | none => false
      | some b => match preT.get b, inv.get b with
        | none, none => injK π preT r (inv.set p.1 b)
        | _, _ => false
noncomputable def covB (r : MRow) (v : AV) (h : Heap) (π : RT Key) : Bool :=
  cond (mV (trk r.preT r.tgtT π) 20 r.val v) (cond (covAll (trk r.preT r.tgtT π) r.tgtT h r.post) (cond (covAll (trk r.preT r.tgtT π) r.tgtT h r.pre) (injK π r.preT r.post RT.nil) false) false) false
/-! which keys stand for which -/
def prsL (g : AV → AV → List (Key × Key)) : List AV → List AV → List (Key × Key)
  | a :: x, b :: y => cat (g a b) (prsL g x y)
  | _, _ => []
def prsV : Nat → AV → AV → List (Key × Key)
  | 0, _, _ => []
  | d + 1, x, y => match x with
    | .ptr a _ => (match y with | .ptr b _ => [(a, b)] | _ => [])
    | .slice a _ _ _ => (match y with | .slice b _ _ _ => [(a, b)] | _ => [])
    | .map a => (match y with | .map b => [(a, b)] | _ => [])
    | .iface _ a => (match y with | .iface _ b => prsV d a b | _ => [])
    | .func _ a b => (match y with | .func _ a' b' => cat (prsL (prsV d) a a') (prsL (prsV d) b b') | _ => [])
    | .agg a => (match y with | .agg b => prsL (prsV d) a b | _ => [])
    | .tup a => (match y with | .tup b => prsL (prsV d) a b | _ => [])
    | _ => []
def prsE : List (AV × AV × Nat) → List (AV × AV × Nat) → List (Key × Key)
  | a :: x, b :: y => cat (prsV 20 a.1 b.1) (cat (prsV 20 a.2.1 b.2.1) (prsE x y))
  | _, _ => []
def lookE (k : AV) : List (AV × AV) → Option AV
  | [] => none
  | e :: r => cond (scalEq k e.1) (some e.2) (lookE k r)
def prsO1 (v : AV) (x : Option AV) : List (Key × Key) := match x with
  | some y => prsV 20 v y
  | none => []
def prsM (l : List (AV × AV)) : List (AV × AV) → List (Key × Key)
  | [] => []
  | e :: r => cat (prsO1 e.2 (lookE e.1 l)) (prsM l r)
def prsA (l : List (AV × AV × Nat)) : List (List (AV × AV × Nat) × Nat) → List (Key × Key)
  | [] => []
  | v :: _ => prsM (stripE l) (stripE v.1)
def prsO (o' o : AObj) : List (Key × Key) := match o' with
  | .cells _ cs _ _ => (match o with | .cells _ cs2 _ _ => prsL (prsV 20) cs cs2 | _ => [])
  | .map es _ => (match o with | .map es2 _ => prsE es es2 | _ => [])
  | .lmap es => (match o with | .lmap es2 => prsM es2 es | .map es2 _ => prsM (stripE es2) es | _ => [])
  | .mapAlt vs => (match o with | .map es2 _ => prsA es2 vs | _ => [])
  | _ => []
def prs2 (x y : Option AObj) : List (Key × Key) := match x, y with
  | some a, some b => prsO a b
  | _, _ => []
noncomputable def uniS (preT tgtT : RT AObj) (h : Heap) (ih : List (Key × Key) → RT Key → RT Key) (l : List (Key × Key)) (π : RT Key) : RT Key := match l with
  | [] => π
  | p :: r => match preT.get p.1 with
    | some _ => ih r π
    | none => match π.get p.1 with
      | some _ => ih r π
      | none => ih (cat (prs2 (tgtT.get p.1) (h.get p.2)) r) (π.set p.2 p.1)
noncomputable def uni (preT tgtT : RT AObj) (h : Heap) (n : Nat) : List (Key × Key) → RT Key → RT Key := Nat.rec (motive := fun _ => List (Key × Key) → RT Key → RT Key) (fun _ π => π) (fun _ ih => uniS preT tgtT h ih) n
noncomputable def uniPre (tgtT : RT AObj) (h : Heap) : List (Key × AObj) → List (Key × Key)
  | [] => []
  | p :: r => cat (prs2 (tgtT.get p.1) (h.get p.1)) (uniPre tgtT h r)
noncomputable def covers (r : MRow) (v : AV) (h : Heap) : Bool := covB r v h (uni r.preT r.tgtT h 1000000 (cat (prsV 20 r.val v) (uniPre r.tgtT h r.pre)) RT.nil)
/-! what must be there -/
def beqE2 : List (AV × AV) → List (AV × AV) → Bool
  | [], [] => true
  | a :: x, b :: y => cond (beqA 60 a.1 b.1) (cond (beqA 60 a.2 b.2) (beqE2 x y) false) false
  | _, _ => false
def beqVs : List (List (AV × AV × Nat) × Nat) → List (List (AV × AV × Nat) × Nat) → Bool
  | [], [] => true
  | a :: x, b :: y => cond (Nat.beq a.2 b.2) (cond (beqE a.1 b.1) (beqVs x y) false) false
  | _, _ => false
def beqO3 (a b : AObj) : Bool := match a with
  | .lmap es => (match b with | .lmap es' => beqE2 es es' | _ => false)
  | .mapAlt vs => (match b with | .mapAlt vs' => beqVs vs vs' | _ => false)
  | .bits e n c => (match b with | .bits e' n' c' => cond (Nat.beq e e') (cond (Nat.beq n n') (Nat.beq c c') false) false | _ => false)
  | .bytes e n => (match b with | .bytes e' n' => cond (Nat.beq e e') (Nat.beq n n') false | _ => false)
  | a => beqO a b
noncomputable def havePre (h : Heap) : List (Key × AObj) → Bool
  | [] => true
  | p :: r => match h.get p.1 with
    | some o => cond (beqO3 o p.2) (havePre h r) false
    | none => false
noncomputable def freeNew (preT : RT AObj) (h : Heap) : List (Key × AObj) → Bool
  | [] => true
  | p :: r => match preT.get p.1 with
    | some _ => freeNew preT h r
    | none => match h.get p.1 with
      | none => freeNew preT h r
      | some _ => false
noncomputable def applyM (r : MRow) (h : Heap) : Option (AV × Heap) := cond (havePre h r.pre) (cond (freeNew r.preT h r.post) (some (r.val, putObjs r.post h)) none) none
noncomputable def mrowP (args : List AV) (h : Heap) : List MRow → Option (AV × Heap)
  | [] => none
  | r :: rs => cond (beqL (beqA 60) args r.args) (match applyM r h with | some x => some x | none => mrowP args h rs) (mrowP args h rs)
/-! what is asked of a row by itself -/
def isOn {α : Type} (x : Option α) : Bool := match x with
  | some _ => true
  | none => false
noncomputable def inT (t : RT AObj) (b : Key) : Bool := isOn (t.get b)
def kindM (o : AObj) : Bool := match o with
  | .cells _ _ _ _ => true
  | .map _ _ => true
  | .lmap _ => true
  | .mapAlt _ => true
  | .bytes _ _ => true
  | .bits _ _ _ => true
  | _ => false
noncomputable def preOk (S : Key → Bool) (st : RT AObj) : List (Key × AObj) → Bool
  | [] => true
  | p :: r => cond (objIn S p.2) (cond (kindM p.2) (cond (isOn (st.get p.1)) false (preOk S st r)) false) false
noncomputable def nodupK : List (Key × AObj) → RT Key → Bool
  | [], _ => true
  | p :: r, t => cond (isOn (t.get p.1)) false (nodupK r (t.set p.1 p.1))
def ksL (g : AV → List Key) : List AV → List Key
  | [] => []
  | v :: r => cat (g v) (ksL g r)
def ksV : Nat → AV → List Key
  | 0, _ => []
  | d + 1, v => match v with
    | .ptr b _ => [b]
    | .slice b _ _ _ => [b]
    | .map b => [b]
    | .iface _ v => ksV d v
    | .func (.func _) a b => cat (ksL (ksV d) a) (ksL (ksV d) b)
    | .agg cs => ksL (ksV d) cs
    | .tup cs => ksL (ksV d) cs
    | _ => []
def ksE : List (AV × AV × Nat) → List Key
  | [] => []
  | e :: r => cat (ksV 20 e.1) (cat (ksV 20 e.2.1) (ksE r))
def ksE2 : List (AV × AV) → List Key
  | [] => []
  | e :: r => cat (ksV 20 e.1) (cat (ksV 20 e.2) (ksE2 r))
def inL (b : Key) : List Key → Bool
  | [] => false
  | a :: r => cond (Key.same a b) true (inL b r)
def inAll (b : Key) : List (List (AV × AV × Nat) × Nat) → Bool
  | [] => true
  | v :: r => cond (inL b (ksE v.1)) (inAll b r) false
def keepAll (vs : List (List (AV × AV × Nat) × Nat)) : List Key → List Key
  | [] => []
  | b :: r => cond (inAll b vs) (b :: keepAll vs r) (keepAll vs r)
def ksA (vs : List (List (AV × AV × Nat) × Nat)) : List Key := match vs with
  | [] => []
  | v :: _ => keepAll vs (ksE v.1)
def ksO (o : AObj) : List Key := match o with
  | .cells _ cs _ _ => ksL (ksV 20) cs
  | .map es _ => ksE es
  | .lmap es => ksE2 es
  | .mapAlt vs => ksA vs
  | _ => []
noncomputable def addKs : List Key → RT Key → RT Key
  | [], t => t
  | b :: r, t => addKs r (t.set b b)
noncomputable def reachGo : List (Key × AObj) → RT Key → Bool
  | [], _ => true
  | p :: r, t => cond (isOn (t.get p.1)) (reachGo r (addKs (ksO p.2) t)) false
noncomputable def MRow.ok (P : Program) (laid : List (Nat × AObj)) (r : MRow) : Bool :=
  cond (listIn (avIn (inT r.preT) 20) r.args) (cond (preOk (inT r.preT) (startT laid P.globals.size) r.pre) (cond (nodupK r.pre RT.nil) (reachGo r.pre (addKs (ksL (ksV 20) r.args) RT.nil)) false) false) false
/-! the starts of its runs: one for each variant -/
def altsO : List (List (AV × AV × Nat) × Nat) → List AObj
  | [] => []
  | v :: r => .map v.1 v.2 :: altsO r
def pickO (o : AObj) : List AObj := match o with
  | .mapAlt vs => altsO vs
  | o => [o]
def consAll (b : Key) (o : AObj) : List (List (Key × AObj)) → List (List (Key × AObj))
  | [] => []
  | l :: r => ((b, o) :: l) :: consAll b o r
def prodK (b : Key) (ls : List (List (Key × AObj))) : List AObj → List (List (Key × AObj))
  | [] => []
  | o :: r => cat (consAll b o ls) (prodK b ls r)
def picks : List (Key × AObj) → List (List (Key × AObj))
  | [] => [[]]
  | p :: r => prodK p.1 (picks r) (pickO p.2)
noncomputable def startM (P : Program) (laid : List (Nat × AObj)) (f : Nat) (args : List AV) (pre : List (Key × AObj)) (k : Key) : St := match bodyOf P f with
  | some c => enter P f args .normal [] (putObjs pre ⟨startT laid P.globals.size, k⟩) c
  | none => .bad "no body"
/-! lemmas -/
theorem putO_out : ∀ {l : List (Key × AObj)} {t : RT AObj} {b : Key}, (∀ p ∈ l, p.1 ≠ b) → (putO l t).get b = t.get b
  | [], _, _, _ => rfl
  | p :: r, t, b, h => by
    show (putO r (t.set p.2 p.1)).get b = _
    rw [putO_out fun q hq => h q (List.mem_cons_of_mem _ hq), RT.get_set_other _ _ _ _ (h p (List.mem_cons_self ..))]
theorem putO_in : ∀ {l : List (Key × AObj)} {t : RT AObj} {b : Key}, (∃ p ∈ l, p.1 = b) → ∃ o, (putO l t).get b = some o ∧ (b, o) ∈ l
  | [], _, _, ⟨_, hp, _⟩ => by cases hp
  | p :: r, t, b, h => by
    by_cases hr : ∃ q ∈ r, q.1 = b
    · obtain ⟨o, h1, h2⟩ := putO_in (t := t.set p.2 p.1) hr
      exact ⟨o, h1, List.mem_cons_of_mem _ h2⟩
    · have hp : p.1 = b := by
        obtain ⟨q, hq, e⟩ := h
        cases hq with
        | head => exact e
        | tail _ hq => exact absurd ⟨q, hq, e⟩ hr
      refine ⟨p.2, ?_, by rw [← hp]; exact List.mem_cons_self ..⟩
      show (putO r (t.set p.2 p.1)).get b = _
      rw [putO_out fun q hq e => hr ⟨q, hq, e⟩, ← hp, RT.get_set_same]
theorem putO_same : ∀ {l : List (Key × AObj)} {t t' : RT AObj} {b : Key}, (∃ p ∈ l, p.1 = b) → (putO l t).get b = (putO l t').get b
  | [], _, _, _, ⟨_, hp, _⟩ => by cases hp
  | p :: r, t, t', b, h => by
    show (putO r (t.set p.2 p.1)).get b = (putO r (t'.set p.2 p.1)).get b
    by_cases hr : ∃ q ∈ r, q.1 = b
    · exact putO_same hr
    · have hp : p.1 = b := by
        obtain ⟨q, hq, e⟩ := h
        cases hq with
        | head => exact e
        | tail _ hq => exact absurd ⟨q, hq, e⟩ hr
      rw [putO_out fun q hq e => hr ⟨q, hq, e⟩, putO_out fun q hq e => hr ⟨q, hq, e⟩, ← hp, RT.get_set_same, RT.get_set_same]
theorem putO_some {l : List (Key × AObj)} {t : RT AObj} {b : Key} {o : AObj} (h : (putO l t).get b = some o) : (b, o) ∈ l ∨ ((∀ p ∈ l, p.1 ≠ b) ∧ t.get b = some o) := by
  by_cases hb : ∃ p ∈ l, p.1 = b
  · obtain ⟨o', h1, h2⟩ := putO_in (t := t) hb
    rw [h1] at h; injection h with h; subst h
    exact .inl h2
  · have hb' : ∀ p ∈ l, p.1 ≠ b := fun p hp e => hb ⟨p, hp, e⟩
    rw [putO_out hb'] at h
    exact .inr ⟨hb', h⟩
theorem putO_nodup : ∀ {l : List (Key × AObj)} {t : RT AObj}, (l.map (·.1)).Nodup → ∀ p ∈ l, (putO l t).get p.1 = some p.2
  | [], _, _, p, hp => by cases hp
  | q :: r, t, hn, p, hp => by
    rw [List.map_cons, List.nodup_cons] at hn
    cases hp with
    | head =>
      show (putO r (t.set q.2 q.1)).get q.1 = _
      rw [putO_out fun x hx e => hn.1 (List.mem_map.2 ⟨x, hx, e⟩), RT.get_set_same]
    | tail _ hp => exact putO_nodup hn.2 p hp
theorem putObjs_T : ∀ (l : List (Key × AObj)) (t : RT AObj) (n : Key), putObjs l (Heap.mk t n) = Heap.mk (putO l t) n
  | [], _, _ => rfl
  | p :: r, t, n => putObjs_T r (t.set p.2 p.1) n
theorem nodupK_spec : ∀ {l : List (Key × AObj)} {t : RT Key}, nodupK l t = true → (∀ p ∈ l, t.get p.1 = none) ∧ (l.map (·.1)).Nodup
  | [], _, _ => ⟨(fun _ h => nomatch h), List.nodup_nil⟩
  | p :: r, t, h => by
    unfold nodupK at h
    cases hp : t.get p.1 with
    | some x => rw [hp] at h; cases h
    | none =>
      rw [hp] at h
      have h : nodupK r (t.set p.1 p.1) = true := h
      obtain ⟨h1, h2⟩ := nodupK_spec h
      have hne : ∀ q ∈ r, p.1 ≠ q.1 := fun q hq e => by
        have := h1 q hq
        rw [← e, RT.get_set_same] at this; cases this
      refine ⟨fun q hq => ?_, ?_⟩
      · cases hq with
        | head => exact hp
        | tail _ hq =>
          have := h1 q hq
          rwa [RT.get_set_other _ _ _ _ (hne q hq)] at this
      · rw [List.map_cons, List.nodup_cons]
        refine ⟨fun hm => ?_, h2⟩
        obtain ⟨q, hq, e⟩ := List.mem_map.1 hm
        exact hne q hq e.symm
theorem beqE2_is : ∀ {x y : List (AV × AV)}, beqE2 x y = true → x = y
  | [], [], _ => rfl
  | (a, b) :: x, (a', b') :: y, h => by
    unfold beqE2 at h
    obtain ⟨h1, h⟩ := condB h
    obtain ⟨h2, h⟩ := condB h
    rw [beqA_eq 60 _ _ (show beqA 60 a a' = true from h1), beqA_eq 60 _ _ (show beqA 60 b b' = true from h2), beqE2_is h]
  | [], _ :: _, h => by cases h
  | _ :: _, [], h => by cases h
theorem beqVs_is : ∀ {x y : List (List (AV × AV × Nat) × Nat)}, beqVs x y = true → x = y
  | [], [], _ => rfl
  | (a, b) :: x, (a', b') :: y, h => by
    unfold beqVs at h
    obtain ⟨h1, h⟩ := condB h
    obtain ⟨h2, h⟩ := condB h
    rw [Nat.eq_of_beq_eq_true (show Nat.beq b b' = true from h1), beqE_is (show beqE a a' = true from h2), beqVs_is h]
  | [], _ :: _, h => by cases h
  | _ :: _, [], h => by cases h
theorem beqO3_is {a b : AObj} (h : beqO3 a b = true) : a = b := by
  unfold beqO3 at h
  split at h
  · split at h
    · rw [beqE2_is h]
    · cases h
  · split at h
    · rw [beqVs_is h]
    · cases h
  · split at h
    · obtain ⟨h1, q⟩ := condB h
      obtain ⟨h2, h3⟩ := condB q
      rw [Nat.eq_of_beq_eq_true h1, Nat.eq_of_beq_eq_true h2, Nat.eq_of_beq_eq_true h3]
    · cases h
  · split at h
    · obtain ⟨h1, h2⟩ := condB h
      rw [Nat.eq_of_beq_eq_true h1, Nat.eq_of_beq_eq_true h2]
    · cases h
  · exact beqO_is h
theorem havePre_spec {h : Heap} : ∀ {l : List (Key × AObj)}, havePre h l = true → ∀ p ∈ l, h.get p.1 = some p.2
  | [], _, p, hp => by cases hp
  | q :: r, ha, p, hp => by
    unfold havePre at ha
    split at ha
    · rename_i o hg
      obtain ⟨h1, h2⟩ := condB ha
      cases hp with
      | head => rw [hg, beqO3_is h1]
      | tail _ hp => exact havePre_spec h2 p hp
    · cases ha
theorem freeNew_spec {preT : RT AObj} {h : Heap} : ∀ {l : List (Key × AObj)}, freeNew preT h l = true → ∀ p ∈ l, preT.get p.1 = none → h.get p.1 = none
  | [], _, p, hp, _ => by cases hp
  | q :: r, ha, p, hp, hn => by
    unfold freeNew at ha
    split at ha
    · rename_i o hq
      cases hp with
      | head => rw [hq] at hn; cases hn
      | tail _ hp => exact freeNew_spec ha p hp hn
    · split at ha
      · rename_i hq hg
        cases hp with
        | head => exact hg
        | tail _ hp => exact freeNew_spec ha p hp hn
      · cases ha
theorem covAll_spec {f : Key → Option Key} {tgtT : RT AObj} {h : Heap} : ∀ {l : List (Key × AObj)}, covAll f tgtT h l = true → ∀ p ∈ l, ∃ o' b o, tgtT.get p.1 = some o' ∧ f p.1 = some b ∧ h.get b = some o ∧ mO f o' o = true
  | [], _, p, hp => by cases hp
  | q :: r, ha, p, hp => by
    unfold covAll at ha
    split at ha
    · rename_i o' b h1 h2
      split at ha
      · rename_i o h3
        obtain ⟨h4, h5⟩ := condB ha
        cases hp with
        | head => exact ⟨o', b, o, h1, h2, h3, h4⟩
        | tail _ hp => exact covAll_spec h5 p hp
      · cases ha
    · cases ha
theorem injK_spec {π : RT Key} {preT : RT AObj} : ∀ {l : List (Key × AObj)} {inv : RT Key}, injK π preT l inv = true →
    (∀ p ∈ l, preT.get p.1 = none → ∃ b, π.get p.1 = some b ∧ preT.get b = none ∧ inv.get b = none) ∧ (∀ p ∈ l, ∀ q ∈ l, preT.get p.1 = none → preT.get q.1 = none → π.get p.1 = π.get q.1 → p.1 = q.1)
  | [], _, _ => ⟨(fun _ h => nomatch h), (fun _ h => nomatch h)⟩
  | x :: r, inv, h => by
    unfold injK at h
    split at h
    · rename_i o hx
      obtain ⟨h1, h2⟩ := injK_spec h
      refine ⟨fun p hp hn => ?_, fun p hp q hq hn hm e => ?_⟩
      · cases hp with
        | head => rw [hx] at hn; cases hn
        | tail _ hp => exact h1 p hp hn
      · cases hp with
        | head => rw [hx] at hn; cases hn
        | tail _ hp => cases hq with
          | head => rw [hx] at hm; cases hm
          | tail _ hq => exact h2 p hp q hq hn hm e
    · rename_i hx
      split at h
      · cases h
      · rename_i b hb
        split at h
        · rename_i hp1 hi1
          obtain ⟨h1, h2⟩ := injK_spec h
          have hne : ∀ p ∈ r, preT.get p.1 = none → π.get p.1 ≠ some b := fun p hp hn e => by
            obtain ⟨b', e1, _, e3⟩ := h1 p hp hn
            rw [e] at e1; injection e1 with e1; subst e1
            rw [RT.get_set_same] at e3; cases e3
          refine ⟨fun p hp hn => ?_, fun p hp q hq hn hm e => ?_⟩
          · cases hp with
            | head => exact ⟨b, hb, hp1, hi1⟩
            | tail _ hp =>
              obtain ⟨b', e1, e2, e3⟩ := h1 p hp hn
              have : b ≠ b' := fun e => hne p hp hn (by rw [e1, e])
              exact ⟨b', e1, e2, by rwa [RT.get_set_other _ _ _ _ this] at e3⟩
          · cases hp with
            | head => cases hq with
              | head => rfl
              | tail _ hq => exact absurd (e.symm.trans hb) (hne q hq hm)
            | tail _ hp => cases hq with
              | head => exact absurd (e.trans hb) (hne p hp hn)
              | tail _ hq => exact h2 p hp q hq hn hm e
        · cases h
theorem preOk_spec {S : Key → Bool} {st : RT AObj} : ∀ {l : List (Key × AObj)}, preOk S st l = true → ∀ p ∈ l, objIn S p.2 = true ∧ kindM p.2 = true ∧ st.get p.1 = none
  | [], _, p, hp => by cases hp
  | q :: r, h, p, hp => by
    unfold preOk at h
    obtain ⟨h1, h⟩ := condB h
    obtain ⟨h2, h⟩ := condB h
    cases hq : st.get q.1 with
    | some x => rw [hq] at h; cases h
    | none =>
      rw [hq] at h
      cases hp with
      | head => exact ⟨h1, h2, hq⟩
      | tail _ hp => exact preOk_spec (show preOk S st r = true from h) p hp
section
variable {ρ : Rho}
theorem ksL_rel {g : AV → List Key} (hg : ∀ v V, Rel ρ v V → ∀ b ∈ g v, ∃ L, ρ b = some L) : ∀ {l : List AV} {L : List Value}, RelL ρ l L → ∀ b ∈ ksL g l, ∃ L, ρ b = some L
  | _, _, .nil, b, hb => by cases hb
  | _, _, .cons v V r R hv hr, b, hb => by
    rw [show ksL g (v :: r) = cat (g v) (ksL g r) from rfl, cat_eq] at hb
    rcases List.mem_append.1 hb with h1 | h1
    · exact hg v V hv b h1
    · exact ksL_rel hg hr b h1
theorem ksV_rel : ∀ (d : Nat) (v : AV) (V : Value), Rel ρ v V → ∀ b ∈ ksV d v, ∃ L, ρ b = some L
  | 0, _, _, _, b, hb => by cases hb
  | d + 1, v, V, hr, b, hb => by
    have ih := ksV_rel d
    cases hr with
    | ptr a o L e => obtain rfl : b = a := by simpa [ksV] using hb
                     exact ⟨L, e⟩
    | sliceIs a o l c L e => obtain rfl : b = a := by simpa [ksV] using hb
                             exact ⟨L, e⟩
    | sliceMore a o l c sz L e _ _ => obtain rfl : b = a := by simpa [ksV] using hb
                                      exact ⟨L, e⟩
    | map a L e => obtain rfl : b = a := by simpa [ksV] using hb
                   exact ⟨L, e⟩
    | iface t v V h => exact ih v V h b hb
    | func f x y X Y hx hy =>
      rw [show ksV (d + 1) (.func (.func f) x y) = cat (ksL (ksV d) x) (ksL (ksV d) y) from rfl, cat_eq] at hb
      rcases List.mem_append.1 hb with h1 | h1
      · exact ksL_rel ih hx b h1
      · exact ksL_rel ih hy b h1
    | agg x X hx => exact ksL_rel ih hx b hb
    | tup x X hx => exact ksL_rel ih hx b hb
    | _ => cases hb
theorem ksE_rel : ∀ {es : List (AV × AV × Nat)} {E : List MapEntry}, ERel ρ es E → ∀ b ∈ ksE es, ∃ L, ρ b = some L
  | _, _, .nil, b, hb => by cases hb
  | _, _, .cons k v K V c r R hk hv hr, b, hb => by
    rw [show ksE ((k, v, c) :: r) = cat (ksV 20 k) (cat (ksV 20 v) (ksE r)) from rfl, cat_eq, cat_eq] at hb
    rcases List.mem_append.1 hb with h1 | h1
    · exact ksV_rel 20 k K hk b h1
    · rcases List.mem_append.1 h1 with h1 | h1
      · exact ksV_rel 20 v V hv b h1
      · exact ksE_rel hr b h1
theorem ksE2_mem : ∀ {es : List (AV × AV)} {b : Key}, b ∈ ksE2 es → ∃ e ∈ es, b ∈ ksV 20 e.1 ∨ b ∈ ksV 20 e.2
  | [], _, hb => by cases hb
  | e :: r, b, hb => by
    rw [show ksE2 (e :: r) = cat (ksV 20 e.1) (cat (ksV 20 e.2) (ksE2 r)) from rfl, cat_eq, cat_eq] at hb
    rcases List.mem_append.1 hb with h1 | h1
    · exact ⟨e, List.mem_cons_self .., .inl h1⟩
    · rcases List.mem_append.1 h1 with h1 | h1
      · exact ⟨e, List.mem_cons_self .., .inr h1⟩
      · obtain ⟨x, hx, h2⟩ := ksE2_mem h1
        exact ⟨x, List.mem_cons_of_mem _ hx, h2⟩
theorem erel_mem : ∀ {es : List (AV × AV × Nat)} {E : List MapEntry}, ERel ρ es E → ∀ e ∈ es, ∃ K V, Rel ρ e.1 K ∧ Rel ρ e.2.1 V
  | _, _, .nil, e, he => by cases he
  | _, _, .cons k v K V c r R hk hv hr, e, he => by
    cases he with
    | head => exact ⟨K, V, hk, hv⟩
    | tail _ he => exact erel_mem hr e he
theorem inL_mem {b : Key} : ∀ {l : List Key}, inL b l = true → b ∈ l
  | [], h => by cases h
  | a :: r, h => by
    unfold inL at h
    cases hs : Key.same a b with
    | true => rw [(Key.same_iff _ _).1 hs]; exact List.mem_cons_self ..
    | false => rw [hs] at h; exact List.mem_cons_of_mem _ (inL_mem (l := r) h)
theorem inAll_mem {b : Key} : ∀ {vs : List (List (AV × AV × Nat) × Nat)}, inAll b vs = true → ∀ v ∈ vs, b ∈ ksE v.1
  | [], _, v, hv => by cases hv
  | x :: r, h, v, hv => by
    unfold inAll at h
    obtain ⟨h1, h2⟩ := condB h
    cases hv with
    | head => exact inL_mem h1
    | tail _ hv => exact inAll_mem h2 v hv
theorem keepAll_mem {vs : List (List (AV × AV × Nat) × Nat)} {b : Key} : ∀ {l : List Key}, b ∈ keepAll vs l → inAll b vs = true
  | [], h => by cases h
  | a :: r, h => by
    unfold keepAll at h
    cases hc : inAll a vs with
    | true =>
      rw [hc] at h
      cases h with
      | head => exact hc
      | tail _ h => exact keepAll_mem h
    | false => rw [hc] at h; exact keepAll_mem (l := r) h
theorem ksO_rel {N : Nat → Prop} {L : Loc} {O : Option Obj} {o : AObj} (h : ObjRel N ρ L O o) : ∀ b ∈ ksO o, ∃ L, ρ b = some L := by
  intro b hb
  cases o with
  | cells e cs opn fz => obtain ⟨_, C, q, _, _, _, ⟨_, h1⟩, _⟩ := h; exact ksL_rel (ksV_rel 20) h1 b hb
  | map es c => obtain ⟨_, E, _, h1⟩ := h; exact ksE_rel h1 b hb
  | lmap es =>
    obtain ⟨_, E, c, _, ⟨es', hp, he⟩, _⟩ := h
    obtain ⟨x, hx, h2⟩ := ksE2_mem hb
    obtain ⟨y, hy, e1⟩ := List.mem_map.1 (hp.mem_iff.2 hx)
    obtain ⟨K, V, r1, r2⟩ := erel_mem he y hy
    subst e1
    rcases h2 with h2 | h2
    · exact ksV_rel 20 _ K r1 b h2
    · exact ksV_rel 20 _ V r2 b h2
  | mapAlt vs =>
    obtain ⟨_, v, hv, E, _, h1⟩ := h
    cases vs with
    | nil => cases hb
    | cons x r => exact ksE_rel h1 b (inAll_mem (keepAll_mem hb) v hv)
  | _ => cases hb
theorem addKs_get : ∀ {l : List Key} {t : RT Key} {b : Key}, isOn ((addKs l t).get b) = true → b ∈ l ∨ isOn (t.get b) = true
  | [], _, _, h => .inr h
  | a :: r, t, b, h => by
    rcases addKs_get (l := r) (t := t.set a a) h with h1 | h1
    · exact .inl (List.mem_cons_of_mem _ h1)
    · by_cases e : a = b
      · exact .inl (by rw [e]; exact List.mem_cons_self ..)
      · rw [RT.get_set_other _ _ _ _ e] at h1; exact .inr h1
theorem reachGo_spec : ∀ {l : List (Key × AObj)} {t : RT Key}, reachGo l t = true → (∀ b, isOn (t.get b) = true → ∃ L, ρ b = some L) → (∀ p ∈ l, (∃ L, ρ p.1 = some L) → ∀ b ∈ ksO p.2, ∃ L, ρ b = some L) → ∀ p ∈ l, ∃ L, ρ p.1 = some L
  | [], _, _, _, _, p, hp => by cases hp
  | q :: r, t, h, ht, hl, p, hp => by
    unfold reachGo at h
    obtain ⟨h1, h2⟩ := condB h
    have hq := ht _ h1
    cases hp with
    | head => exact hq
    | tail _ hp =>
      refine reachGo_spec h2 (fun b hb => ?_) (fun x hx => hl x (List.mem_cons_of_mem _ hx)) p hp
      rcases addKs_get hb with h3 | h3
      · exact hl q (List.mem_cons_self ..) hq b h3
      · exact ht b h3
end
end Go.VM
namespace Go.VM
theorem ObjRel.weak {N N' : Nat → Prop} (hN : ∀ k, N' k → N k) {ρ : Rho} {L : Loc} {O : Option Obj} {o : AObj} (h : ObjRel N ρ L O o) : ObjRel N' ρ L O o := by
  cases o with
  | fixed e cs => exact h
  | dead => trivial
  | dom ds => exact h
  | ivl lo hi => exact h
  | cells e cs a b => exact ⟨fun e => h.1 (hN _ e), h.2⟩
  | map es c => exact ⟨fun e => h.1 (hN _ e), h.2⟩
  | siter a b c => exact ⟨fun e => h.1 (hN _ e), h.2⟩
  | miter a b c d => exact ⟨fun e => h.1 (hN _ e), h.2⟩
  | loop a b c d e f g i => exact ⟨fun e => h.1 (hN _ e), h.2⟩
  | deferred ds => exact ⟨fun e => h.1 (hN _ e), h.2⟩
  | pack a b c => exact ⟨fun e => h.1 (hN _ e), h.2⟩
  | packo a b c d => exact (let ⟨t', ha, h1, h2⟩ := h; ⟨t', ha, fun e => h1 (hN _ e), h2⟩)
  | lmap es => exact ⟨fun e => h.1 (hN _ e), h.2⟩
  | mapAlt vs => exact ⟨fun e => h.1 (hN _ e), h.2⟩
  | bytes e n => exact ⟨fun e => h.1 (hN _ e), h.2⟩
  | rowG v b => exact h
  | bits a b c => exact ⟨fun e => h.1 (hN _ e), h.2⟩
  | smap es c => exact ⟨fun e => h.1 (hN _ e), h.2⟩
  | smiter m a b c => exact ⟨fun e => h.1 (hN _ e), h.2⟩
  | umap m l n => exact ⟨fun e => h.1 (hN _ e), h.2⟩
theorem kindM_free {N : Nat → Prop} {ρ : Rho} {L : Loc} {O : Option Obj} {o : AObj} (hk : kindM o = true) (h : ObjRel N ρ L O o) : ¬ N L.B := by
  cases o <;> first | exact h.1 | cases hk
theorem kindM_live {o : AObj} (hk : kindM o = true) : o.live = true := by
  cases o <;> first | rfl | cases hk
/-- what holds of an object under other names, where it may be written -/
theorem ObjRel.refit {N N' : Nat → Prop} {ρ ρ' : Rho} {S : Key → Bool} {L : Loc} {O : Option Obj} {o : AObj} (hk : kindM o = true) (hN : ¬ N' L.B) (hS : ∀ b L, S b = true → ρ b = some L → ρ' b = some L) (ho : objIn S o = true) (h : ObjRel N ρ L O o) : ObjRel N' ρ' L O o := by
  have h1 := (ObjRel.within (N := N) (N' := fun _ => False) (fun _ e => e.elim) hS ho h).1
  cases o <;> first | exact ⟨hN, h1.2⟩ | cases hk
theorem altsO_mem : ∀ {vs : List (List (AV × AV × Nat) × Nat)} {v : List (AV × AV × Nat) × Nat}, v ∈ vs → AObj.map v.1 v.2 ∈ altsO vs
  | x :: r, v, h => by
    cases h with
    | head => exact List.mem_cons_self ..
    | tail _ h => exact List.mem_cons_of_mem _ (altsO_mem h)
theorem consAll_mem {b : Key} {o : AObj} : ∀ {ls : List (List (Key × AObj))} {l : List (Key × AObj)}, l ∈ ls → (b, o) :: l ∈ consAll b o ls
  | x :: r, l, h => by
    cases h with
    | head => exact List.mem_cons_self ..
    | tail _ h => exact List.mem_cons_of_mem _ (consAll_mem h)
theorem prodK_mem {b : Key} {ls : List (List (Key × AObj))} {l : List (Key × AObj)} (hl : l ∈ ls) {os : List AObj} {o : AObj} (h : o ∈ os) : (b, o) :: l ∈ prodK b ls os := by
  induction os with
  | nil => cases h
  | cons x r ih =>
    unfold prodK
    rw [cat_eq]
    cases h with
    | head => exact List.mem_append_left _ (consAll_mem hl)
    | tail _ h => exact List.mem_append_right _ (ih h)
theorem picks_ok {Q : Key → AObj → Prop} (hQ : ∀ b vs, Q b (.mapAlt vs) → ∃ v, v ∈ vs ∧ Q b (.map v.1 v.2)) : ∀ {l : List (Key × AObj)}, (∀ p ∈ l, Q p.1 p.2) → ∃ c, c ∈ picks l ∧ c.map (·.1) = l.map (·.1) ∧ ∀ p ∈ c, Q p.1 p.2
  | [], _ => ⟨[], List.mem_cons_self .., rfl, fun _ h => by cases h⟩
  | (b, o) :: r, h => by
    obtain ⟨c, hc, hk, hq⟩ := picks_ok hQ (l := r) fun p hp => h p (List.mem_cons_of_mem _ hp)
    have hb : Q b o := h (b, o) (List.mem_cons_self ..)
    have fin : ∀ o', o' ∈ pickO o → Q b o' → ∃ c, c ∈ picks ((b, o) :: r) ∧ c.map (·.1) = ((b, o) :: r).map (·.1) ∧ ∀ p ∈ c, Q p.1 p.2 := fun o' ho' hq' =>
      ⟨(b, o') :: c, prodK_mem hc ho', by simp [hk], fun p hp => by
        cases hp with
        | head => exact hq'
        | tail _ hp => exact hq p hp⟩
    cases o with
    | mapAlt vs =>
      obtain ⟨v, hv, hq'⟩ := hQ b vs hb
      exact fin _ (altsO_mem hv) hq'
    | _ => exact fin _ (List.mem_cons_self ..) hb
theorem trk_some {preT tgtT : RT AObj} {π : RT Key} {a b : Key} (h : trk preT tgtT π a = some b) : (∃ o, tgtT.get a = some o) ∧ (((∃ o, preT.get a = some o) ∧ b = a) ∨ (preT.get a = none ∧ π.get a = some b)) := by
  unfold trk at h
  split at h
  · cases h
  · rename_i o ho
    refine ⟨⟨o, ho⟩, ?_⟩
    split at h
    · rename_i o2 h2
      injection h with h
      exact .inl ⟨⟨o2, h2⟩, h.symm⟩
    · rename_i h2
      exact .inr ⟨h2, h⟩
section
variable [H : Hook] {P : Program}
/-- a row that turns memory is what the function does -/
theorem mrow_ok (hR : RowsOk P) (hF : P.follows .mixedOrders = true) (h64 : P.globals.size ≤ 64) {laid : List (Nat × AObj)} {tot : Nat → Nat} {W0 : Base} (hW : W0.Keeps P laid tot)
    (hS : ∀ b : Base, b.Keeps P laid tot → (∀ g v, g < P.globals.size → W0.w.cell? ⟨g, 0, none⟩ = some v → b.w.cell? ⟨g, 0, none⟩ = some v) → SumOk P b)
    {f n : Nat} {r : MRow} {k : Key} (hok : r.ok P laid = true) (hrun : ∀ c ∈ picks r.pre, runF P (covers r) n (startM P laid f r.args c k) = true)
    {ρ : Rho} {h : Heap} {w : World} {A : List Value} (hs : Sim W0 ρ h w) (hr : RelL ρ r.args A) {x : AV × Heap} (ha : applyM r h = some x) :
    Calls P f ⟨A⟩ w fun e w' => ∃ ρ' V, e = .returned V ∧ Sub ρ ρ' ∧ Kept ρ h ρ' x.2 ∧ Rel ρ' x.1 V ∧ Sim W0 ρ' x.2 w' := by
  unfold applyM at ha
  cases hpre : havePre h r.pre with
  | false => rw [hpre] at ha; cases ha
  | true =>
  rw [hpre, cond_true] at ha
  cases hfree : freeNew r.preT h r.post with
  | false => rw [hfree] at ha; cases ha
  | true =>
  rw [hfree, cond_true] at ha
  injection ha with ha
  subst ha
  unfold MRow.ok at hok
  obtain ⟨hargs, hok⟩ := condB hok
  obtain ⟨hpo, hok⟩ := condB hok
  obtain ⟨hnd, hreach⟩ := condB hok
  have hget := havePre_spec hpre
  have hfr := freeNew_spec hfree
  have hnd := (nodupK_spec hnd).2
  have hT : ∀ p ∈ r.pre, r.preT.get p.1 = some p.2 := putO_nodup hnd
  have hTs : ∀ {b o}, r.preT.get b = some o → (b, o) ∈ r.pre := fun {b o} e => by
    rcases putO_some e with h1 | ⟨_, h1⟩
    · exact h1
    · rw [RT.get_nil] at h1; cases h1
  have hpk := preOk_spec hpo
  have hρ : ∀ p ∈ r.pre, ∃ L, ρ p.1 = some L := by
    refine reachGo_spec hreach (fun b hb => ?_) (fun p hp hL b hb => ?_)
    · rcases addKs_get hb with h1 | h1
      · exact ksL_rel (ksV_rel 20) hr b h1
      · rw [RT.get_nil] at h1; cases h1
    · obtain ⟨L, e⟩ := hL
      obtain ⟨o, g, _, ho⟩ := hs.obj _ _ e
      rw [hget p hp] at g; injection g with g; subst g
      exact ksO_rel ho b hb
  have hfw : ∀ p ∈ r.pre, ∀ L, ρ p.1 = some L → L.B < w.heap.size ∧ ObjRel W0.F ρ L w.heap[L.B]? p.2 ∧ ¬ W0.F L.B := fun p hp L e => by
    obtain ⟨o, g, hlt, ho⟩ := hs.obj _ _ e
    rw [hget p hp] at g; injection g with g; subst g
    exact ⟨hlt, ho, kindM_free (hpk p hp).2.1 ho⟩
  -- the callee's base
  let F : Nat → Prop := fun a => a < w.heap.size ∧ ∀ p ∈ r.pre, ∀ L, ρ p.1 = some L → L.B ≠ a
  let ρK : Rho := fun b => match startRho tot P.globals.size b with
    | some L => some L
    | none => match r.preT.get b with
      | some _ => ρ b
      | none => none
  let w0 : Base := ⟨w, F, fun a e => e.1, ρK⟩
  have hgk : ∀ p ∈ r.pre, startRho tot P.globals.size p.1 = none := fun p hp => by
    cases e : startRho tot P.globals.size p.1 with
    | none => rfl
    | some L =>
      obtain ⟨g, hg, hk, _⟩ := startRho_some e
      have := (hpk p hp).2.2
      rw [hk, startT_at h64 hg] at this; cases this
  have hnames : Sub (startRho tot P.globals.size) ρ := hW.names.trans hs.sub
  have hFW : ∀ a, W0.F a → F a := fun a ha => ⟨Nat.lt_of_lt_of_le (W0.lt a ha) hs.size, fun p hp L e hB => (hfw p hp L e).2.2 (hB ▸ ha)⟩
  have hKp : ∀ p ∈ r.pre, ρK p.1 = ρ p.1 := fun p hp => by
    show (match startRho tot P.globals.size p.1 with | some L => some L | none => match r.preT.get p.1 with | some _ => ρ p.1 | none => none) = _
    rw [hgk p hp, hT p hp]
  have hKs : ∀ {b L}, startRho tot P.globals.size b = some L → ρK b = some L := fun {b L} e => by
    show (match startRho tot P.globals.size b with | some L => some L | none => match r.preT.get b with | some _ => ρ b | none => none) = _
    rw [e]
  have hKc : ∀ {b L}, ρK b = some L → startRho tot P.globals.size b = some L ∨ ∃ o, (b, o) ∈ r.pre ∧ ρ b = some L := fun {b L} e => by
    have e : (match startRho tot P.globals.size b with | some L => some L | none => match r.preT.get b with | some _ => ρ b | none => none) = some L := e
    cases hst : startRho tot P.globals.size b with
    | some L' => rw [hst] at e; injection e with e; subst e; exact .inl rfl
    | none =>
      rw [hst] at e
      cases hp : r.preT.get b with
      | none => rw [hp] at e; cases e
      | some o => rw [hp] at e; exact .inr ⟨o, hTs hp, e⟩
  have laidw : LaidOk P laid tot w := hW.world hs.size hs.old
  have hkeeps : w0.Keeps P laid tot := ⟨laidw, fun g hg => hFW g (hW.glob g hg), fun b L e => hKs e⟩
  have hSum := hS w0 hkeeps fun g v hg hc => cell_keeps hW hc hg hs.old
  have hS' : ∀ b L, inT r.preT b = true → ρ b = some L → ρK b = some L := fun b L hb e => by
    cases hp : r.preT.get b with
    | none => unfold inT at hb; rw [hp] at hb; cases hb
    | some o => rw [← e]; exact hKp (b, o) (hTs hp)
  have hnF : ∀ p ∈ r.pre, ∀ L, ρ p.1 = some L → ¬ F L.B := fun p hp L e hF => hF.2 p hp L e rfl
  obtain ⟨c, hc, hck, hcq⟩ := picks_ok (Q := fun b o => ∃ L, ρ b = some L ∧ L.B < w.heap.size ∧ ObjRel F ρK L w.heap[L.B]? o) (fun b vs hq => by
      obtain ⟨L, e, hlt, hN, v, hv, E, hO, hE⟩ := hq
      exact ⟨v, hv, L, e, hlt, hN, E, hO, hE⟩) (l := r.pre) (fun p hp => by
      obtain ⟨L, e⟩ := hρ p hp
      obtain ⟨hlt, ho, _⟩ := hfw p hp L e
      exact ⟨L, e, hlt, ObjRel.refit (hpk p hp).2.1 (hnF p hp L e) hS' (hpk p hp).1 ho⟩)
  have hcin : ∀ {b}, (∃ p ∈ c, p.1 = b) ↔ ∃ p ∈ r.pre, p.1 = b := fun {b} => by
    have h1 : b ∈ c.map (·.1) ↔ b ∈ r.pre.map (·.1) := by rw [hck]
    rw [List.mem_map, List.mem_map] at h1
    exact h1
  have hg0 : ∀ b, (putObjs c ⟨startT laid P.globals.size, k⟩).get b = (putO c (startT laid P.globals.size)).get b := fun b => by rw [putObjs_T]; rfl
  have hs0 : Sim w0 ρK (putObjs c ⟨startT laid P.globals.size, k⟩) w := by
    refine ⟨rfl, rfl, Nat.le_refl _, fun _ _ => rfl, Sub.refl _, fun b L e => ?_, fun b b' L L' o o' e e' g g' l l' hB => ?_⟩
    · rcases hKc e with e1 | ⟨o, hp, e1⟩
      · obtain ⟨g, hg, rfl, rfl⟩ := startRho_some e1
        have hout : ∀ p ∈ c, p.1 ≠ gkey g := fun p hp he => by
          obtain ⟨q, hq, hqe⟩ := hcin.1 ⟨p, hp, he⟩
          have := hgk q hq
          rw [hqe, e1] at this; cases this
        refine ⟨_, by rw [hg0, putO_out hout]; exact startT_at h64 hg, Nat.lt_of_lt_of_le hg laidw.1, ?_⟩
        cases hx : laid.lookup g with
        | none => exact trivial
        | some o => exact laidw.2 g o hg hx _ _
      · obtain ⟨o1, h1, h2⟩ := putO_in (l := c) (t := startT laid P.globals.size) (b := b) (hcin.2 ⟨(b, o), hp, rfl⟩)
        obtain ⟨L', e2, hlt, hq⟩ := hcq (b, o1) h2
        rw [e1] at e2; injection e2 with e2; subst e2
        exact ⟨o1, by rw [hg0]; exact h1, hlt, hq⟩
    · rcases hKc e with e1 | ⟨p1, hp1, e1⟩ <;> rcases hKc e' with e2 | ⟨p2, hp2, e2⟩
      · obtain ⟨x, _, rfl, rfl⟩ := startRho_some e1
        obtain ⟨y, _, rfl, rfl⟩ := startRho_some e2
        have : x = y := hB
        rw [this]
      · obtain ⟨x, hx, rfl, rfl⟩ := startRho_some e1
        have hB : x = L'.B := hB
        exact absurd (hB ▸ hW.glob x hx) (hfw _ hp2 L' e2).2.2
      · obtain ⟨x, hx, rfl, rfl⟩ := startRho_some e2
        have hB : L.B = x := hB
        exact absurd (hB ▸ hW.glob x hx) (hfw _ hp1 L e1).2.2
      · exact hs.inj b b' L L' p1 p2 e1 e2 (hget _ hp1) (hget _ hp2) (kindM_live (hpk _ hp1).2.1) (kindM_live (hpk _ hp2).2.1) hB
  have hglob : Glob P ρK := fun g hg => ⟨_, hKs (startRho_at h64 hg), rfl, rfl⟩
  have hargsK : RelL ρK r.args A := RelL.withinF (Rel.within hS' 20) hargs hr
  have hrunc := hrun c hc
  unfold startM at hrunc
  cases hb : bodyOf P f with
  | none => rw [hb, runF_eq] at hrunc; cases n <;> cases hrunc
  | some cd =>
  rw [hb, runF_eq] at hrunc
  refine (runAll_calls ⟨⟩ ⟨extOk_of_rows hR, hSum⟩ hF hs0 hglob hargsK hb hrunc).mono ?_
  rintro e w' ⟨ρ1, v, V, h1, rfl, hv, hs1, _, hpost⟩
  unfold covers at hpost
  generalize (uni r.preT r.tgtT h1 1000000 (cat (prsV 20 r.val v) (uniPre r.tgtT h1 r.pre)) RT.nil) = π at hpost
  unfold covB at hpost
  obtain ⟨hval, hpost⟩ := condB hpost
  obtain ⟨hcp, hpost⟩ := condB hpost
  obtain ⟨hcq2, hinj⟩ := condB hpost
  have hcp := covAll_spec hcp
  have hcq2 := covAll_spec hcq2
  obtain ⟨hinj1, hinj2⟩ := injK_spec hinj
  -- what each target stands for
  have hstand : ∀ a o', r.tgtT.get a = some o' → ∃ b o, trk r.preT r.tgtT π a = some b ∧ h1.get b = some o ∧ mO (trk r.preT r.tgtT π) o' o = true := fun a o' ht => by
    have key : ∀ p : Key × AObj, p.1 = a → (∃ o' b o, r.tgtT.get p.1 = some o' ∧ trk r.preT r.tgtT π p.1 = some b ∧ h1.get b = some o ∧ mO (trk r.preT r.tgtT π) o' o = true) → ∃ b o, trk r.preT r.tgtT π a = some b ∧ h1.get b = some o ∧ mO (trk r.preT r.tgtT π) o' o = true := by
      rintro p rfl ⟨o2, b, o, q1, q2, q3, q4⟩
      rw [ht] at q1; injection q1 with q1; subst q1
      exact ⟨b, o, q2, q3, q4⟩
    rcases putO_some ht with h2 | ⟨_, h2⟩
    · exact key _ rfl (hcp _ h2)
    · exact key _ rfl (hcq2 _ (hTs h2))
  let ρ' : Rho := fun a => match r.tgtT.get a with
    | some _ => (trk r.preT r.tgtT π a).bind ρ1
    | none => ρ a
  have hρin : ∀ {a o'}, r.tgtT.get a = some o' → ρ' a = (trk r.preT r.tgtT π a).bind ρ1 := fun {a o'} e => by
    show (match r.tgtT.get a with | some _ => (trk r.preT r.tgtT π a).bind ρ1 | none => ρ a) = _
    rw [e]
  have hρout : ∀ {a}, r.tgtT.get a = none → ρ' a = ρ a := fun {a} e => by
    show (match r.tgtT.get a with | some _ => (trk r.preT r.tgtT π a).bind ρ1 | none => ρ a) = _
    rw [e]
  have hf : ∀ a b L, trk r.preT r.tgtT π a = some b → ρ1 b = some L → ρ' a = some L := fun a b L e e1 => by
    obtain ⟨⟨o, ho⟩, _⟩ := trk_some e
    rw [hρin ho, e]; exact e1
  have hpt : ∀ {a o}, r.preT.get a = some o → ∃ o', r.tgtT.get a = some o' := fun {a o} e => by
    cases ht : r.tgtT.get a with
    | some o' => exact ⟨o', rfl⟩
    | none =>
      exfalso
      by_cases hm : ∃ p ∈ r.post, p.1 = a
      · obtain ⟨o', h2, _⟩ := putO_in (t := r.preT) hm
        have h2 : r.tgtT.get a = some o' := h2
        rw [ht] at h2; cases h2
      · have h2 : r.tgtT.get a = r.preT.get a := putO_out fun p hp he => hm ⟨p, hp, he⟩
        rw [ht, e] at h2; cases h2
  have htpre : ∀ {a o}, r.preT.get a = some o → trk r.preT r.tgtT π a = some a := fun {a o} e => by
    obtain ⟨o', ht⟩ := hpt e
    unfold trk; rw [ht]; dsimp only; rw [e]
  have hnew : ∀ {a o'}, r.tgtT.get a = some o' → r.preT.get a = none → (∃ q, q ∈ r.post ∧ q.1 = a) ∧ h.get a = none := fun {a o'} ht hp => by
    rcases putO_some ht with h2 | ⟨_, h2⟩
    · exact ⟨⟨_, h2, rfl⟩, hfr _ h2 hp⟩
    · rw [show r.preT.get a = some o' from h2] at hp; cases hp
  have hsub : Sub ρ ρ' := fun a L e => by
    cases ht : r.tgtT.get a with
    | none => rw [hρout ht]; exact e
    | some o' =>
      cases hp : r.preT.get a with
      | none => rw [hs.none_of_get (hnew ht hp).2] at e; cases e
      | some o => exact hf a a L (htpre hp) (hs1.sub a L (by rw [← e]; exact hKp (a, o) (hTs hp)))
  obtain ⟨t, nk⟩ := h
  have hh' : ∀ a, (putObjs r.post (Heap.mk t nk)).get a = (putO r.post t).get a := fun a => by rw [putObjs_T]; rfl
  have hin : ∀ {a o'}, r.tgtT.get a = some o' → (putObjs r.post (Heap.mk t nk)).get a = some o' := fun {a o'} ht => by
    rw [hh']
    by_cases hm : ∃ p ∈ r.post, p.1 = a
    · rw [putO_same hm (t' := r.preT)]; exact ht
    · have hm' : ∀ p ∈ r.post, p.1 ≠ a := fun p hp he => hm ⟨p, hp, he⟩
      rw [putO_out hm']
      have h2 : r.preT.get a = some o' := by rw [← ht]; exact (putO_out hm').symm
      exact hget _ (hTs h2)
  have hout : ∀ {a}, r.tgtT.get a = none → (putObjs r.post (Heap.mk t nk)).get a = (Heap.mk t nk).get a := fun {a} ht => by
    rw [hh', putO_out fun p hp he => by
      obtain ⟨o', h2, _⟩ := putO_in (t := r.preT) ⟨p, hp, he⟩
      have h2 : r.tgtT.get a = some o' := h2
      rw [ht] at h2; cases h2]
    rfl
  have hF' : ∀ {b L o}, r.tgtT.get b = none → ρ b = some L → (Heap.mk t nk).get b = some o → o.live = true → F L.B := fun {b L o} ht e g l => by
    obtain ⟨_, _, hlt, _⟩ := hs.obj b L e
    refine ⟨hlt, fun p hp L' e' hB => ?_⟩
    have hpb := hs.inj p.1 b L' L p.2 o e' e (hget p hp) g (kindM_live (hpk p hp).2.1) l hB
    obtain ⟨o', h2⟩ := hpt (hT p hp)
    rw [hpb, ht] at h2; cases h2
  have hinside : ∀ {a o' L}, r.tgtT.get a = some o' → ρ' a = some L → ∃ b o, trk r.preT r.tgtT π a = some b ∧ ρ1 b = some L ∧ h1.get b = some o ∧ mO (trk r.preT r.tgtT π) o' o = true ∧ L.B < w'.heap.size ∧ ObjRel F ρ1 L w'.heap[L.B]? o := fun {a o' L} ht e => by
    obtain ⟨b, o, q1, q2, q3⟩ := hstand a o' ht
    rw [hρin ht, q1] at e
    have e : ρ1 b = some L := e
    obtain ⟨o2, q4, q5, q6⟩ := hs1.obj b L e
    rw [q2] at q4; injection q4 with q4; subst q4
    exact ⟨b, o, q1, e, q2, q3, q5, q6⟩
  refine ⟨ρ', V, rfl, hsub, fun a o g e => ?_, mV_ok hf 20 _ _ _ hval hv, hs1.os.trans hs.os, hs1.out.trans hs.out, Nat.le_trans hs.size hs1.size, fun a hA => ?_, hs.sub.trans hsub, fun a L e => ?_, fun a1 a2 L1 L2 o1 o2 e1 e2 g1 g2 l1 l2 hB => ?_⟩
  · have ht : r.tgtT.get a = none := by
      cases ht : r.tgtT.get a with
      | none => rfl
      | some o' =>
        exfalso
        cases hp : r.preT.get a with
        | none => rw [(hnew ht hp).2] at g; cases g
        | some op => obtain ⟨L, e2⟩ := hρ _ (hTs hp); rw [e] at e2; cases e2
    exact ⟨by rw [hρout ht]; exact e, by rw [hout ht]; exact g⟩
  · exact (hs1.old a (hFW a hA)).trans (hs.old a hA)
  · cases ht : r.tgtT.get a with
    | some o' =>
      obtain ⟨b, o, _, _, _, q3, q5, q6⟩ := hinside ht e
      exact ⟨o', hin ht, q5, (mO_ok hf q3 q6).weak hFW⟩
    | none =>
      rw [hρout ht] at e
      obtain ⟨o, g, hlt, ho⟩ := hs.obj a L e
      refine ⟨o, by rw [hout ht]; exact g, Nat.lt_of_lt_of_le hlt hs1.size, ?_⟩
      cases hl : o.live with
      | true =>
        rw [hs1.old _ (hF' ht e g hl)]
        exact ho.mono hsub
      | false =>
        cases o with
        | dead => trivial
        | dom ds => exact ho
        | ivl lo hi => exact ho
        | _ => simp [AObj.live] at hl
  · cases ht1 : r.tgtT.get a1 with
    | some o1' =>
      rw [hin ht1] at g1; injection g1 with g1; subst g1
      obtain ⟨b1, p1, q1, r1, s1, m1, _, w1⟩ := hinside ht1 e1
      cases ht2 : r.tgtT.get a2 with
      | some o2' =>
        rw [hin ht2] at g2; injection g2 with g2; subst g2
        obtain ⟨b2, p2, q2, r2, s2, m2, _, _⟩ := hinside ht2 e2
        have hbb := hs1.inj b1 b2 L1 L2 p1 p2 r1 r2 s1 s2 (mO_live m1 l1) (mO_live m2 l2) hB
        subst hbb
        rcases (trk_some q1).2 with ⟨⟨x1, y1⟩, z1⟩ | ⟨y1, z1⟩ <;> rcases (trk_some q2).2 with ⟨⟨x2, y2⟩, z2⟩ | ⟨y2, z2⟩
        · exact z1.symm.trans z2
        · obtain ⟨⟨q, hq, hqe⟩, _⟩ := hnew ht2 y2
          obtain ⟨b', i1, i2, _⟩ := hinj1 q hq (by rw [hqe]; exact y2)
          rw [hqe, z2] at i1; injection i1 with i1; subst i1
          rw [z1, y1] at i2; cases i2
        · obtain ⟨⟨q, hq, hqe⟩, _⟩ := hnew ht1 y1
          obtain ⟨b', i1, i2, _⟩ := hinj1 q hq (by rw [hqe]; exact y1)
          rw [hqe, z1] at i1; injection i1 with i1; subst i1
          rw [z2, y2] at i2; cases i2
        · obtain ⟨⟨u, hu, hue⟩, _⟩ := hnew ht1 y1
          obtain ⟨⟨q, hq, hqe⟩, _⟩ := hnew ht2 y2
          have := hinj2 u hu q hq (by rw [hue]; exact y1) (by rw [hqe]; exact y2) (by rw [hue, hqe, z1, z2])
          rw [hue, hqe] at this; exact this
      | none =>
        exfalso
        rw [hρout ht2] at e2
        rw [hout ht2] at g2
        exact mO_free m1 l1 w1 (hB ▸ hF' ht2 e2 g2 l2)
    | none =>
      rw [hρout ht1] at e1
      rw [hout ht1] at g1
      cases ht2 : r.tgtT.get a2 with
      | some o2' =>
        exfalso
        rw [hin ht2] at g2; injection g2 with g2; subst g2
        obtain ⟨b2, p2, q2, r2, s2, m2, _, w2⟩ := hinside ht2 e2
        exact mO_free m2 l2 w2 (hB ▸ hF' ht1 e1 g1 l1)
      | none =>
        rw [hρout ht2] at e2
        rw [hout ht2] at g2
        exact hs.inj a1 a2 L1 L2 o1 o2 e1 e2 g1 g2 l1 l2 hB
end
end Go.VM
namespace Go.VM
section
variable [H : Hook] {P : Program}
/-- a row's runs: one for each variant -/
def RowRuns (P : Program) (laid : List (Nat × AObj)) (f : Nat) (k : Key) (r : MRow) : Prop := r.ok P laid = true ∧ ∃ n, ∀ c ∈ picks r.pre, runF P (covers r) n (startM P laid f r.args c k) = true
omit H in
theorem mrowP_some {args : List AV} {h : Heap} {x : AV × Heap} : ∀ {rows : List MRow}, mrowP args h rows = some x → ∃ r, r ∈ rows ∧ args = r.args ∧ applyM r h = some x
  | [], e => by cases e
  | r :: rs, e => by
    unfold mrowP at e
    cases hb : beqL (beqA 60) args r.args with
    | false =>
      rw [hb] at e
      obtain ⟨q, h1, h2⟩ := mrowP_some (rows := rs) e
      exact ⟨q, List.mem_cons_of_mem _ h1, h2⟩
    | true =>
      rw [hb, cond_true] at e
      cases ha : applyM r h with
      | some y =>
        rw [ha] at e
        have e : some y = some x := e
        exact ⟨r, List.mem_cons_self .., beqL_eq (beqA_eq 60) hb, by rw [ha, e]⟩
      | none =>
        rw [ha] at e
        obtain ⟨q, h1, h2⟩ := mrowP_some (rows := rs) e
        exact ⟨q, List.mem_cons_of_mem _ h1, h2⟩
/-- rows that turn memory, as an evaluator's function -/
theorem mprim_ok (hR : RowsOk P) (hF : P.follows .mixedOrders = true) (h64 : P.globals.size ≤ 64) {laid : List (Nat × AObj)} {tot : Nat → Nat} {f : Nat} {k : Key} {rows : List MRow} (hrows : ∀ r ∈ rows, RowRuns P laid f k r) {b : Base} (hW : b.Keeps P laid tot)
    (hS : ∀ b' : Base, b'.Keeps P laid tot → (∀ g v, g < P.globals.size → b.w.cell? ⟨g, 0, none⟩ = some v → b'.w.cell? ⟨g, 0, none⟩ = some v) → SumOk P b') : PrimOk P b f (fun args h => mrowP args h rows) := by
  intro ρ h w args A v h' hs hr he
  obtain ⟨r, hm, rfl, ha⟩ := mrowP_some he
  obtain ⟨hok, n, hrun⟩ := hrows r hm
  exact mrow_ok hR hF h64 hW hS hok hrun hs hr ha
end
end Go.VM
namespace Go.VM
section
variable {w0 : Base} {w : World} {ρ : Rho} {h : Heap}
/-- a symbol: a key that stands for a number of an interval -/
theorem Sim.addIvl (hs : Sim w0 ρ h w) {b : Key} (hb : h.get b = none) (hz : 0 < w.heap.size) {lo hi j : Nat} (hm : lo ≤ j ∧ j < hi) : Sim w0 (ρ.add b ⟨0, j, 0⟩) (h.put b (.ivl lo hi)) w := by
  have hn := hs.none_of_get hb
  have hsub : Sub ρ (ρ.add b ⟨0, j, 0⟩) := Rho.sub_add hn
  have other : ∀ k K, (ρ.add b ⟨0, j, 0⟩) k = some K → b ≠ k → ρ k = some K := fun k K e hk => by simpa [Rho.add, hk] using e
  refine ⟨hs.os, hs.out, hs.size, hs.old, hs.sub.trans hsub, ?_, ?_⟩
  · intro k K e
    by_cases hk : b = k
    · subst hk
      rw [Rho.add_same] at e; cases e
      exact ⟨_, Heap.get_put_same h b _, hz, hm⟩
    · obtain ⟨o, ho, hlt, hr⟩ := hs.obj k K (other k K e hk)
      exact ⟨o, by rw [Heap.get_put_other h b k _ hk]; exact ho, hlt, hr.mono hsub⟩
  · intro b1 b2 L1 L2 o1 o2 e1 e2 g1 g2 l1 l2 hB
    have key : ∀ bx ox, (h.put b (.ivl lo hi)).get bx = some ox → ox.live = true → b ≠ bx ∧ h.get bx = some ox := by
      intro bx ox g l
      by_cases hx : b = bx
      · subst hx; rw [Heap.get_put_same] at g; cases g; cases l
      · rw [Heap.get_put_other h b bx _ hx] at g; exact ⟨hx, g⟩
    obtain ⟨n1, g1⟩ := key _ _ g1 l1
    obtain ⟨n2, g2⟩ := key _ _ g2 l2
    exact hs.inj b1 b2 L1 L2 o1 o2 (other _ _ e1 n1) (other _ _ e2 n2) g1 g2 l1 l2 hB
end
section
variable [H : Hook] {P : Program}
noncomputable def freeK (h : Heap) (b : Key) : Bool := match h.get b with
  | none => true
  | some _ => false
noncomputable def startStI (P : Program) (laid : List (Nat × AObj)) (f : Nat) (args : List AV) (b : Key) (lo hi : Nat) (k : Key) : St := match bodyOf P f with
  | some c => cond (freeK ⟨startT laid P.globals.size, k⟩ b) (enter P f args .normal [] ((⟨startT laid P.globals.size, k⟩ : Heap).put b (.ivl lo hi)) c) (.bad "the symbol's key")
  | none => .bad "no body"
/-- a run with a symbol of an interval that answers true -/
theorem truth_ivl (hR : RowsOk P) (hF : P.follows .mixedOrders = true) (h64 : P.globals.size ≤ 64) {laid : List (Nat × AObj)} {tot : Nat → Nat} {f : Nat} {args : List AV} {A : List Value} {w : World} (hS : SumOk P (Base.at w (startRho tot P.globals.size))) (hw : LaidOk P laid tot w) (hz : 0 < w.heap.size)
    {b : Key} {lo hi j : Nat} {k : Key} (hj : lo ≤ j ∧ j < hi) (hr : RelL ((startRho tot P.globals.size).add b ⟨0, j, 0⟩) args A) {n : Nat} (hrun : runF P isTrue n (startStI P laid f args b lo hi k) = true) :
    Calls P f ⟨A⟩ w fun e w' => e = .returned (.bool true) ∧ Grew w w' := by
  rw [runF_eq] at hrun
  unfold startStI at hrun
  cases hb : bodyOf P f with
  | none => rw [hb] at hrun; cases n <;> cases hrun
  | some c =>
    rw [hb] at hrun
    cases hg : (⟨startT laid P.globals.size, k⟩ : Heap).get b with
    | some x =>
      have hk : freeK ⟨startT laid P.globals.size, k⟩ b = false := by unfold freeK; rw [hg]
      rw [hk] at hrun; cases n <;> cases hrun
    | none =>
      have hk : freeK ⟨startT laid P.globals.size, k⟩ b = true := by unfold freeK; rw [hg]
      rw [hk] at hrun
      have h0 := start_sim (laid := laid) (tot := tot) h64 hw.1 (fun g o hg hl ρ => hw.2 g o hg hl _ ρ)
      have hs : Sim (Base.at w (startRho tot P.globals.size)) (startRho tot P.globals.size) ⟨startT laid P.globals.size, k⟩ w := ⟨h0.os, h0.out, h0.size, h0.old, h0.sub, h0.obj, h0.inj⟩
      have hs2 := hs.addIvl hg hz hj
      refine (runAll_calls ⟨⟩ ⟨extOk_of_rows hR, hS⟩ hF hs2 ((start_glob h64).mono (Rho.sub_add (hs.none_of_get hg))) hr hb hrun).mono ?_
      rintro e w' ⟨ρ', v, V, h, rfl, hv, hs', _, hpost⟩
      exact ⟨by rw [isTrue_rel hv hpost], Grew.of_sim hs'.std⟩
end
end Go.VM
namespace Go.VM
section
variable [H : Hook] {P : Program} {w0 : Base}
/-! a table of answers at a symbol: value by value -/
noncomputable def rowPlain (r : Row) : Option AV := cond r.val.plain (some r.val) none
noncomputable def rowsAt (rows : List Row) (args : List AV) : Option AV := (memoFind args rows).bind rowPlain
noncomputable def tabOr (b : Key) (ds : List Nat) (h : Heap) (o : Option (List AV)) : Option (AV × Heap) := match ds, o with
  | _ :: _, some rs => some (.tab b ds rs, h)
  | _, _ => none
noncomputable def liftRows (rows : List Row) (args : List AV) (h : Heap) : Option (AV × Heap) := match symK args with
  | some b => tabOr b (domOf (h.get b)) h (liftGo (fun d => rowsAt rows (pickAll b d args)) (domOf (h.get b)))
  | none => none
omit H in
theorem tabOr_some {b : Key} {ds : List Nat} {h : Heap} {o : Option (List AV)} {v : AV} {h' : Heap} (e : tabOr b ds h o = some (v, h')) : ds ≠ [] ∧ ∃ rs, o = some rs ∧ v = .tab b ds rs ∧ h' = h := by
  unfold tabOr at e
  split at e
  · cases e
    exact ⟨fun x => (by cases x), _, rfl, rfl, rfl⟩
  · cases e
omit H in
theorem liftRows_ok {f : Nat} {rows : List Row} (hrows : ∀ r ∈ rows, ∀ (ρ : Rho) (A : List Value) (w : World), RelL ρ r.args A → w0.w.heap.size ≤ w.heap.size → (∀ k, w0.F k → w.heap[k]? = w0.w.heap[k]?) → Calls P f ⟨A⟩ w fun e w' => ∃ ρ1 h1 V, e = .returned V ∧ Rel ρ1 r.val V ∧ Sim (Base.std w) ρ1 h1 w') :
    PrimOk P w0 f (liftRows rows) := by
  intro ρ h w args A v h' hs hr he
  unfold liftRows at he
  cases hk : symK args with
  | none => rw [hk] at he; cases he
  | some b =>
    rw [hk] at he
    obtain ⟨L, hL⟩ := symK_some hr hk
    obtain ⟨hne, rs, hl, rfl, rfl⟩ := tabOr_some he
    obtain ⟨_, hm⟩ := domOf_mem hs hL hne
    have hrow := liftGo_mem hl _ hm
    have hrow : (memoFind (pickAll b L.base args) rows).bind rowPlain = some (lookT L.base (domOf (h'.get b)) rs) := hrow
    cases hf : memoFind (pickAll b L.base args) rows with
    | none => rw [hf] at hrow; cases hrow
    | some r =>
      rw [hf] at hrow
      have hrow : cond r.val.plain (some r.val) none = some (lookT L.base (domOf (h'.get b)) rs) := hrow
      cases hp : r.val.plain with
      | false => rw [hp] at hrow; cases hrow
      | true =>
        rw [hp] at hrow
        have hrow : some r.val = some (lookT L.base (domOf (h'.get b)) rs) := hrow
        injection hrow with hval
        obtain ⟨hmem, hargs⟩ := memoFind_some hf
        have hrel := pickAll_rel hL hr
        rw [← hargs] at hrel
        refine (hrows r hmem ρ A w hrel hs.size hs.old).mono ?_
        rintro e w' ⟨ρ1, h1, V, rfl, hv, hs1⟩
        obtain ⟨hs', hsub, hkept⟩ := hs.frame (objs := []) hs1 (fun p hp => by cases hp) (fun p hp => by cases hp) (fun p hp => by cases hp)
        refine ⟨_, V, rfl, hsub, hkept, ?_, hs'⟩
        have hpl : (lookT L.base (domOf (h'.get b)) rs).plain = true := by rw [← hval]; exact hp
        refine .tab b _ rs L V (hsub _ _ hL) hpl ?_
        rw [← hval]
        generalize r.val = x at hp hv
        cases hv <;> first | (cases hp; done) | exact .bool _ | exact .int _ _ | exact .str _ _ (by assumption)
/-! the same, with a table whose rows hang on the arguments; answers may be tuples -/
noncomputable def headsL : List (List AV) → Option (List AV × List (List AV))
  | [] => some ([], [])
  | l :: r => match l with
    | [] => none
    | v :: l => (headsL r).bind fun p => cond v.plain (some (v :: p.1, l :: p.2)) none
noncomputable def tabS (b : Key) (ds : List Nat) (vs : List AV) : AV := match vs with
  | [] => .junk
  | v :: r => cond (allEq v r) v (.tab b ds (v :: r))
def allNil : List (List AV) → Bool
  | [] => true
  | [] :: r => allNil r
  | (_ :: _) :: _ => false
noncomputable def colsL (b : Key) (ds : List Nat) : Nat → List (List AV) → Option (List AV)
  | 0, l => cond (allNil l) (some []) none
  | n + 1, l => (headsL l).bind fun p => (colsL b ds n p.2).bind fun cs => some (tabS b ds p.1 :: cs)
def isTup (v : AV) : Bool := match v with
  | .tup _ => true
  | _ => false
def partsOf (v : AV) : List AV := match v with
  | .tup l => l
  | v => [v]
noncomputable def rowVal (r : Row) : Option AV := some r.val
def allTup (c : Bool) : List AV → Bool
  | [] => true
  | v :: r => cond (Bool.xor c (isTup v)) false (allTup c r)
def mkTup (c : Bool) (l : List AV) : Option AV := match c, l with
  | true, l => some (.tup l)
  | false, [v] => some v
  | false, _ => none
noncomputable def joinV (b : Key) (ds : List Nat) (vs : List AV) : Option AV := match vs with
  | [] => none
  | v :: r => cond (allTup (isTup v) r) ((colsL b ds (partsOf v).length ((v :: r).map partsOf)).bind (mkTup (isTup v))) none
noncomputable def withH (h : Heap) (o : Option AV) : Option (AV × Heap) := match o with
  | some v => some (v, h)
  | none => none
noncomputable def liftTab (t : List AV → List Row) (args : List AV) (h : Heap) : Option (AV × Heap) := match symK args with
  | some b => withH h ((liftGo (fun d => (memoFind (pickAll b d args) (t (pickAll b d args))).bind rowVal) (domOf (h.get b))).bind (joinV b (domOf (h.get b))))
  | none => none
def nthD {α : Type} (d : Nat) : List Nat → List α → Option α
  | e :: ds, v :: vs => cond (Nat.beq d e) (some v) (nthD d ds vs)
  | _, _ => none
omit H in
theorem nthD_map {α β : Type} (g : α → β) (d : Nat) : ∀ (ds : List Nat) (vs : List α), nthD d ds (vs.map g) = (nthD d ds vs).map g
  | [], vs => by cases vs <;> rfl
  | _ :: _, [] => rfl
  | e :: ds, v :: vs => by
    show cond (Nat.beq d e) (some (g v)) (nthD d ds (vs.map g)) = (cond (Nat.beq d e) (some v) (nthD d ds vs)).map g
    rw [nthD_map g d ds vs]
    cases Nat.beq d e <;> rfl
omit H in
theorem nthD_look {d : Nat} {v : AV} : ∀ {ds : List Nat} {vs : List AV}, nthD d ds vs = some v → lookT d ds vs = v
  | [], vs, h => by cases vs <;> cases h
  | _ :: _, [], h => by cases h
  | e :: ds, x :: vs, h => by
    have h : cond (Nat.beq d e) (some x) (nthD d ds vs) = some v := h
    show cond (Nat.beq d e) x (lookT d ds vs) = v
    cases hb : Nat.beq d e with
    | true => rw [hb] at h; injection h
    | false => rw [hb] at h; exact nthD_look h
omit H in
theorem nthD_mem {α : Type} {d : Nat} {v : α} : ∀ {ds : List Nat} {vs : List α}, nthD d ds vs = some v → v ∈ vs
  | [], vs, h => by cases vs <;> cases h
  | _ :: _, [], h => by cases h
  | e :: ds, x :: vs, h => by
    have h : cond (Nat.beq d e) (some x) (nthD d ds vs) = some v := h
    cases hb : Nat.beq d e with
    | true => rw [hb] at h; injection h with h; subst h; exact List.mem_cons_self
    | false => rw [hb] at h; exact List.mem_cons_of_mem _ (nthD_mem h)
omit H in
theorem liftGo_nthD {f : Nat → Option AV} : ∀ {ds : List Nat} {rs : List AV}, liftGo f ds = some rs → ∀ d ∈ ds, ∃ v, nthD d ds rs = some v ∧ f d = some v
  | [], _, _, _, hd => by cases hd
  | e :: ds, rs, hl, d, hd => by
    have hl : ((f e).bind fun v => (liftGo f ds).bind fun vs => some (v :: vs)) = some rs := hl
    cases hf : f e with
    | none => rw [hf] at hl; cases hl
    | some v =>
      rw [hf] at hl
      cases hr : liftGo f ds with
      | none => rw [hr] at hl; cases hl
      | some vs =>
        rw [hr] at hl; cases hl
        show ∃ u, cond (Nat.beq d e) (some v) (nthD d ds vs) = some u ∧ f d = some u
        cases hb : Nat.beq d e with
        | true => have := Nat.eq_of_beq_eq_true hb; subst this; exact ⟨v, rfl, hf⟩
        | false =>
          cases hd with
          | head => rw [Nat.beq_refl] at hb; cases hb
          | tail _ hd => exact liftGo_nthD hr d hd
omit H in
theorem headsL_nth {d : Nat} {l : List AV} : ∀ {ds : List Nat} {ls : List (List AV)} {p : List AV × List (List AV)}, headsL ls = some p → nthD d ds ls = some l → ∃ v l', l = v :: l' ∧ nthD d ds p.1 = some v ∧ nthD d ds p.2 = some l' ∧ v.plain = true := by
  intro ds
  induction ds with
  | nil => intro ls p _ hn; cases ls <;> cases hn
  | cons e ds ih =>
    intro ls p hh hn
    cases ls with
    | nil => cases hn
    | cons x ls =>
      cases x with
      | nil => cases hh
      | cons v x =>
        have hh : ((headsL ls).bind fun p => cond v.plain (some (v :: p.1, x :: p.2)) none) = some p := hh
        cases hq : headsL ls with
        | none => rw [hq] at hh; cases hh
        | some q =>
          rw [hq] at hh
          have hh : cond v.plain (some (v :: q.1, x :: q.2)) none = some p := hh
          cases hp : v.plain with
          | false => rw [hp] at hh; cases hh
          | true =>
            rw [hp] at hh
            have hh : some (v :: q.1, x :: q.2) = some p := hh
            injection hh with hh; subst hh
            have hn : cond (Nat.beq d e) (some (v :: x)) (nthD d ds ls) = some l := hn
            show ∃ u l', l = u :: l' ∧ cond (Nat.beq d e) (some v) (nthD d ds q.1) = some u ∧ cond (Nat.beq d e) (some x) (nthD d ds q.2) = some l' ∧ u.plain = true
            cases hb : Nat.beq d e with
            | true => rw [hb] at hn; injection hn with hn; subst hn; exact ⟨v, x, rfl, rfl, rfl, hp⟩
            | false => rw [hb] at hn; exact ih hq hn
omit H in
theorem rel_plain2 {ρ ρ1 : Rho} {x : AV} {V : Value} (hp : x.plain = true) (hv : Rel ρ1 x V) : Rel ρ x V := by
  cases hv <;> first | (cases hp; done) | exact .bool _ | exact .int _ _ | exact .str _ _ (by assumption)
omit H in
theorem tabS_rel {ρ ρ1 : Rho} {b : Key} {L : Loc} {ds : List Nat} {vs : List AV} {v : AV} {V : Value} (hb : ρ b = some L) (hn : nthD L.base ds vs = some v) (hp : v.plain = true) (hv : Rel ρ1 v V) : Rel ρ (tabS b ds vs) V := by
  cases vs with
  | nil => cases ds <;> cases hn
  | cons x r =>
    show Rel ρ (cond (allEq x r) x (.tab b ds (x :: r))) V
    cases ha : allEq x r with
    | true =>
      have : v = x := by
        rcases List.mem_cons.1 (nthD_mem hn) with h | h
        · exact h
        · exact allEq_mem ha _ h
      subst this
      exact rel_plain2 hp hv
    | false =>
      have hl := nthD_look hn
      exact .tab b ds _ L V hb (by rw [hl]; exact hp) (by rw [hl]; exact rel_plain2 hp hv)
omit H in
theorem colsL_rel {ρ ρ1 : Rho} {b : Key} {L : Loc} {ds : List Nat} (hb : ρ b = some L) : ∀ {n : Nat} {ls : List (List AV)} {cs l : List AV} {Vs : List Value}, colsL b ds n ls = some cs → nthD L.base ds ls = some l → RelL ρ1 l Vs → RelL ρ cs Vs
  | 0, ls, cs, l, Vs, hc, hn, hv => by
    have hc : cond (allNil ls) (some []) none = some cs := hc
    cases ha : allNil ls with
    | false => rw [ha] at hc; cases hc
    | true =>
      rw [ha] at hc
      have hc : some ([] : List AV) = some cs := hc
      injection hc with hc; subst hc
      have key : ∀ {ls : List (List AV)}, allNil ls = true → ∀ x ∈ ls, x = [] := by
        intro ls
        induction ls with
        | nil => intro _ x hx; cases hx
        | cons y ls ih =>
          intro ha x hx
          cases y with
          | cons _ _ => cases ha
          | nil => cases hx with
            | head => rfl
            | tail _ hx => exact ih ha x hx
      have := key ha l (nthD_mem hn)
      subst this
      cases hv
      exact .nil
  | n + 1, ls, cs, l, Vs, hc, hn, hv => by
    have hc : ((headsL ls).bind fun p => (colsL b ds n p.2).bind fun cs => some (tabS b ds p.1 :: cs)) = some cs := hc
    cases hh : headsL ls with
    | none => rw [hh] at hc; cases hc
    | some p =>
      rw [hh] at hc
      have hc : ((colsL b ds n p.2).bind fun cs => some (tabS b ds p.1 :: cs)) = some cs := hc
      cases hr : colsL b ds n p.2 with
      | none => rw [hr] at hc; cases hc
      | some cs' =>
        rw [hr] at hc
        have hc : some (tabS b ds p.1 :: cs') = some cs := hc
        injection hc with hc; subst hc
        obtain ⟨v, l', rfl, h1, h2, hp⟩ := headsL_nth hh hn
        cases hv with
        | cons _ V _ Vs hv hvs => exact .cons _ _ _ _ (tabS_rel hb h1 hp hv) (colsL_rel hb hr h2 hvs)
omit H in
theorem allTup_mem {c : Bool} : ∀ {r : List AV}, allTup c r = true → ∀ x ∈ r, isTup x = c
  | [], _, _, hx => by cases hx
  | y :: r, h, x, hx => by
    have h : cond (Bool.xor c (isTup y)) false (allTup c r) = true := h
    cases hb : Bool.xor c (isTup y) with
    | true => rw [hb] at h; cases h
    | false =>
      rw [hb] at h
      cases hx with
      | head => revert hb; cases c <;> cases isTup y <;> simp
      | tail _ hx => exact allTup_mem h x hx
omit H in
theorem joinV_rel {ρ ρ1 : Rho} {b : Key} {L : Loc} {ds : List Nat} {vs : List AV} {u v : AV} {V : Value} (hb : ρ b = some L) (hn : nthD L.base ds vs = some v) (hj : joinV b ds vs = some u) (hv : Rel ρ1 v V) : Rel ρ u V := by
  cases vs with
  | nil => cases hj
  | cons x r =>
    have hj : cond (allTup (isTup x) r) ((colsL b ds (partsOf x).length ((x :: r).map partsOf)).bind (mkTup (isTup x))) none = some u := hj
    cases ha : allTup (isTup x) r with
    | false => rw [ha] at hj; cases hj
    | true =>
      rw [ha] at hj
      have hj : ((colsL b ds (partsOf x).length ((x :: r).map partsOf)).bind (mkTup (isTup x))) = some u := hj
      cases hc : colsL b ds (partsOf x).length ((x :: r).map partsOf) with
      | none => rw [hc] at hj; cases hj
      | some cs =>
        rw [hc] at hj
        have hj : mkTup (isTup x) cs = some u := hj
        have ht : isTup v = isTup x := by
          rcases List.mem_cons.1 (nthD_mem hn) with h | h
          · rw [h]
          · exact allTup_mem ha _ h
        have hn' : nthD L.base ds ((x :: r).map partsOf) = some (partsOf v) := by rw [nthD_map, hn]; rfl
        rw [← ht] at hj
        cases hv' : isTup v with
        | true =>
          rw [hv'] at hj
          have hj : some (AV.tup cs) = some u := hj
          injection hj with hj; subst hj
          cases v <;> try (cases hv'; done)
          rename_i l
          cases hv with
          | tup _ Vs hvs => exact .tup _ _ (colsL_rel hb hc hn' hvs)
        | false =>
          rw [hv'] at hj
          have hp : partsOf v = [v] := by cases v <;> first | rfl | (cases hv'; done)
          rw [hp] at hn'
          have hr : RelL ρ cs [V] := colsL_rel hb hc hn' (.cons _ _ _ _ hv .nil)
          cases hr with
          | cons c _ cs _ h1 h2 =>
            cases h2
            have hj : some c = some u := hj
            injection hj with hj; subst hj
            exact h1
omit H in
theorem liftTab_ok {f : Nat} {t : List AV → List Row} (hrows : ∀ a, ∀ r ∈ t a, ∀ (ρ : Rho) (A : List Value) (w : World), RelL ρ r.args A → w0.w.heap.size ≤ w.heap.size → (∀ k, w0.F k → w.heap[k]? = w0.w.heap[k]?) → Calls P f ⟨A⟩ w fun e w' => ∃ ρ1 h1 V, e = .returned V ∧ Rel ρ1 r.val V ∧ Sim (Base.std w) ρ1 h1 w') :
    PrimOk P w0 f (liftTab t) := by
  intro ρ h w args A v h' hs hr he
  unfold liftTab at he
  cases hk : symK args with
  | none => rw [hk] at he; cases he
  | some b =>
    rw [hk] at he
    obtain ⟨L, hL⟩ := symK_some hr hk
    have he : withH h ((liftGo (fun d => (memoFind (pickAll b d args) (t (pickAll b d args))).bind rowVal) (domOf (h.get b))).bind (joinV b (domOf (h.get b)))) = some (v, h') := he
    cases hl : liftGo (fun d => (memoFind (pickAll b d args) (t (pickAll b d args))).bind rowVal) (domOf (h.get b)) with
    | none => rw [hl] at he; cases he
    | some vs =>
      rw [hl] at he
      have he : withH h (joinV b (domOf (h.get b)) vs) = some (v, h') := he
      cases hj : joinV b (domOf (h.get b)) vs with
      | none => rw [hj] at he; cases he
      | some u =>
        rw [hj] at he
        have he : some (u, h) = some (v, h') := he
        injection he with he
        obtain ⟨rfl, rfl⟩ := Prod.mk.inj he
        have hne : domOf (h.get b) ≠ [] := by
          intro e
          rw [e] at hl hj
          have hl : some ([] : List AV) = some vs := hl
          injection hl with hl; subst hl
          cases hj
        obtain ⟨_, hm⟩ := domOf_mem hs hL hne
        obtain ⟨x, hn, hx⟩ := liftGo_nthD hl _ hm
        cases hf : memoFind (pickAll b L.base args) (t (pickAll b L.base args)) with
        | none => rw [hf] at hx; cases hx
        | some r =>
          rw [hf] at hx
          have hx : some r.val = some x := hx
          injection hx with hx; subst hx
          obtain ⟨hmem, hargs⟩ := memoFind_some hf
          have hrel := pickAll_rel hL hr
          rw [← hargs] at hrel
          refine (hrows _ r hmem ρ A w hrel hs.size hs.old).mono ?_
          rintro e w' ⟨ρ1, h1, V, rfl, hv, hs1⟩
          obtain ⟨hs', hsub, hkept⟩ := hs.frame (objs := []) hs1 (fun p hp => by cases hp) (fun p hp => by cases hp) (fun p hp => by cases hp)
          exact ⟨_, V, rfl, hsub, hkept, joinV_rel (hsub _ _ hL) hn hj hv, hs'⟩
end
end Go.VM
namespace Go.VM
/-- a symbol's number is one that its object names -/
def symHas (o : AObj) (j : Nat) : Prop := match o with
  | .dom ds => j ∈ ds
  | .ivl lo hi => lo ≤ j ∧ j < hi
  | _ => False
theorem symHas_live {o : AObj} {j : Nat} (h : symHas o j) : o.live = false := by
  cases o <;> first | rfl | exact h.elim
theorem symHas_rel {N : Nat → Prop} {ρ : Rho} {O : Option Obj} {o : AObj} {j : Nat} (h : symHas o j) : ObjRel N ρ ⟨0, j, 0⟩ O o := by
  cases o <;> first | exact h | exact h.elim
section
variable {w0 : Base} {w : World} {ρ : Rho} {h : Heap}
/-- a symbol: a key that stands for a number of a domain -/
theorem Sim.addSymO (hs : Sim w0 ρ h w) {b : Key} (hb : h.get b = none) (hz : 0 < w.heap.size) {o : AObj} {j : Nat} (hm : symHas o j) : Sim w0 (ρ.add b ⟨0, j, 0⟩) (h.put b o) w := by
  have hn := hs.none_of_get hb
  have hsub : Sub ρ (ρ.add b ⟨0, j, 0⟩) := Rho.sub_add hn
  have other : ∀ k K, (ρ.add b ⟨0, j, 0⟩) k = some K → b ≠ k → ρ k = some K := fun k K e hk => by simpa [Rho.add, hk] using e
  refine ⟨hs.os, hs.out, hs.size, hs.old, hs.sub.trans hsub, ?_, ?_⟩
  · intro k K e
    by_cases hk : b = k
    · subst hk
      rw [Rho.add_same] at e; cases e
      exact ⟨_, Heap.get_put_same h b _, hz, symHas_rel hm⟩
    · obtain ⟨o, ho, hlt, hr⟩ := hs.obj k K (other k K e hk)
      exact ⟨o, by rw [Heap.get_put_other h b k _ hk]; exact ho, hlt, hr.mono hsub⟩
  · intro b1 b2 L1 L2 o1 o2 e1 e2 g1 g2 l1 l2 hB
    have key : ∀ bx ox, (h.put b o).get bx = some ox → ox.live = true → b ≠ bx ∧ h.get bx = some ox := by
      intro bx ox g l
      by_cases hx : b = bx
      · subst hx; rw [Heap.get_put_same] at g; cases g; rw [symHas_live hm] at l; cases l
      · rw [Heap.get_put_other h b bx _ hx] at g; exact ⟨hx, g⟩
    obtain ⟨n1, g1⟩ := key _ _ g1 l1
    obtain ⟨n2, g2⟩ := key _ _ g2 l2
    exact hs.inj b1 b2 L1 L2 o1 o2 (other _ _ e1 n1) (other _ _ e2 n2) g1 g2 l1 l2 hB
end
section
variable [H : Hook] {P : Program}
noncomputable def putSymO (sy : List (Key × AObj)) (h : Heap) : Heap := match sy with
  | [] => h
  | p :: r => putSymO r (h.put p.1 p.2)
/-- every symbol's key is free -/
noncomputable def freeAtO (o : Option AObj) (r : Bool) : Bool := match o with
  | none => r
  | some _ => false
noncomputable def freeSymO : List (Key × AObj) → Heap → Bool
  | [], _ => true
  | p :: r, h => freeAtO (h.get p.1) (freeSymO r (h.put p.1 p.2))
/-- the numbers that symbols stand for -/
def symRhoO (ρ : Rho) : List (Key × AObj) → List Nat → Rho
  | p :: r, j :: js => symRhoO (ρ.add p.1 ⟨0, j, 0⟩) r js
  | _, _ => ρ
def inSyms : List (Key × AObj) → List Nat → Prop
  | [], [] => True
  | p :: r, j :: js => symHas p.2 j ∧ inSyms r js
  | _, _ => False
omit H in
theorem symO_sim {w0 : Base} {w : World} (hz : 0 < w.heap.size) : ∀ {sy : List (Key × AObj)} {js : List Nat} {ρ : Rho} {h : Heap}, Sim w0 ρ h w → freeSymO sy h = true → inSyms sy js → Sim w0 (symRhoO ρ sy js) (putSymO sy h) w ∧ Sub ρ (symRhoO ρ sy js)
  | [], [], _, _, hs, _, _ => ⟨hs, Sub.refl _⟩
  | [], _ :: _, _, _, _, _, hj => hj.elim
  | _ :: _, [], _, _, _, _, hj => hj.elim
  | p :: r, j :: js, ρ, h, hs, hf, hj => by
    have hf : freeAtO (h.get p.1) (freeSymO r (h.put p.1 p.2)) = true := hf
    cases hg : h.get p.1 with
    | some x => rw [hg] at hf; cases hf
    | none =>
      rw [hg] at hf
      obtain ⟨h1, h2⟩ := symO_sim hz (hs.addSymO hg hz hj.1) hf hj.2
      exact ⟨h1, (Rho.sub_add (hs.none_of_get hg)).trans h2⟩
noncomputable def startStG (P : Program) (laid : List (Nat × AObj)) (f : Nat) (args : List AV) (sy : List (Key × AObj)) (k : Key) : St := match bodyOf P f with
  | some c => enter P f args .normal [] (putSymO sy ⟨startT laid P.globals.size, k⟩) c
  | none => .bad "no body"
/-- a run with symbols that answers true -/
theorem truth_symG (hR : RowsOk P) (hF : P.follows .mixedOrders = true) (h64 : P.globals.size ≤ 64) {laid : List (Nat × AObj)} {tot : Nat → Nat} {f : Nat} {args : List AV} {A : List Value} {w : World} (hS : SumOk P (Base.at w (startRho tot P.globals.size))) (hw : LaidOk P laid tot w) (hz : 0 < w.heap.size)
    {sy : List (Key × AObj)} {js : List Nat} {k : Key} (hfree : freeSymO sy ⟨startT laid P.globals.size, k⟩ = true) (hj : inSyms sy js) (hr : RelL (symRhoO (startRho tot P.globals.size) sy js) args A) {n : Nat} (hrun : runF P isTrue n (startStG P laid f args sy k) = true) :
    Calls P f ⟨A⟩ w fun e w' => e = .returned (.bool true) ∧ Grew w w' := by
  rw [runF_eq] at hrun
  unfold startStG at hrun
  cases hb : bodyOf P f with
  | none => rw [hb] at hrun; cases n <;> cases hrun
  | some c =>
    rw [hb] at hrun
    have h0 := start_sim (laid := laid) (tot := tot) h64 hw.1 (fun g o hg hl ρ => hw.2 g o hg hl _ ρ)
    have hs : Sim (Base.at w (startRho tot P.globals.size)) (startRho tot P.globals.size) ⟨startT laid P.globals.size, k⟩ w := ⟨h0.os, h0.out, h0.size, h0.old, h0.sub, h0.obj, h0.inj⟩
    obtain ⟨hs2, hsub⟩ := symO_sim hz hs hfree hj
    refine (runAll_calls ⟨⟩ ⟨extOk_of_rows hR, hS⟩ hF hs2 ((start_glob h64).mono hsub) hr hb hrun).mono ?_
    rintro e w' ⟨ρ', v, V, h, rfl, hv, hs', _, hpost⟩
    exact ⟨by rw [isTrue_rel hv hpost], Grew.of_sim hs'.std⟩
end
end Go.VM
namespace Go.VM
section
variable {w0 : Base} {w : World} {ρ : Rho} {h : Heap}
/-- cells of an argument's memory: they are only read -/
theorem Sim.addRow (hs : Sim w0 ρ h w) {a : Key} (ha : h.get a = none) {B base : Nat} {C : Array Value} {e : Nat} {q : Nat × Nat} {cs : List AV} (hO : w.heap[B]? = some (.cells C e q)) (hr : CellsRel ρ cs C base)
    (hne : ∀ b L o, ρ b = some L → h.get b = some o → o.live = true → L.B ≠ B) : Sim w0 (ρ.add a ⟨B, base, C.size⟩) (h.put a (.fixed 0 cs)) w := by
  have hn := hs.none_of_get ha
  have hsub : Sub ρ (ρ.add a ⟨B, base, C.size⟩) := Rho.sub_add hn
  have other : ∀ k K, (ρ.add a ⟨B, base, C.size⟩) k = some K → a ≠ k → ρ k = some K := fun k K e hk => by simpa [Rho.add, hk] using e
  refine ⟨hs.os, hs.out, hs.size, hs.old, hs.sub.trans hsub, ?_, ?_⟩
  · intro k K e'
    by_cases hk : a = k
    · subst hk
      rw [Rho.add_same] at e'; cases e'
      exact ⟨_, Heap.get_put_same h a _, (Array.getElem?_eq_some_iff.1 hO).1, C, q, ⟨e, hO⟩, rfl, hr.mono hsub⟩
    · obtain ⟨o, ho, hlt, hrel⟩ := hs.obj k K (other k K e' hk)
      exact ⟨o, by rw [Heap.get_put_other h a k _ hk]; exact ho, hlt, hrel.mono hsub⟩
  · intro b1 b2 L1 L2 o1 o2 e1 e2 g1 g2 l1 l2 hB
    by_cases h1 : a = b1
    · by_cases h2 : a = b2
      · rw [← h1, ← h2]
      · subst h1
        rw [Rho.add_same] at e1; cases e1
        rw [Heap.get_put_other h a b2 _ h2] at g2
        exact absurd hB.symm (hne b2 L2 o2 (other _ _ e2 h2) g2 l2)
    · rw [Heap.get_put_other h a b1 _ h1] at g1
      by_cases h2 : a = b2
      · subst h2
        rw [Rho.add_same] at e2; cases e2
        exact absurd hB (hne b1 L1 o1 (other _ _ e1 h1) g1 l1)
      · rw [Heap.get_put_other h a b2 _ h2] at g2
        exact hs.inj b1 b2 L1 L2 o1 o2 (other _ _ e1 h1) (other _ _ e2 h2) g1 g2 l1 l2 hB
end
section
variable [H : Hook] {P : Program}
/-- a start with symbols, and an argument's cells -/
noncomputable def stA (P : Program) (laid : List (Nat × AObj)) (f : Nat) (args : List AV) (sy : List (Key × AObj)) (a : Key) (cs : List AV) (k : Key) : St := match bodyOf P f with
  | some c => enter P f args .normal [] ((putSymO sy ⟨startT laid P.globals.size, k⟩).put a (.fixed 0 cs)) c
  | none => .bad "no body"
noncomputable def noneAt (h : Heap) (a : Key) : Bool := match h.get a with
  | none => true
  | some _ => false
omit H in
theorem noneAt_is {h : Heap} {a : Key} (e : noneAt h a = true) : h.get a = none := by
  unfold noneAt at e
  split at e
  · assumption
  · cases e
omit H in
/-- what symbols add is not live -/
theorem symO_live {w0 : Base} {w : World} {B : Nat} (hz : 0 < w.heap.size) : ∀ {sy : List (Key × AObj)} {js : List Nat} {ρ : Rho} {h : Heap}, Sim w0 ρ h w → freeSymO sy h = true → inSyms sy js → (∀ b L o, ρ b = some L → h.get b = some o → o.live = true → L.B ≠ B) →
    ∀ b L o, symRhoO ρ sy js b = some L → (putSymO sy h).get b = some o → o.live = true → L.B ≠ B
  | [], [], _, _, _, _, _, hn => hn
  | [], _ :: _, _, _, _, _, hj, _ => hj.elim
  | _ :: _, [], _, _, _, _, hj, _ => hj.elim
  | p :: r, j :: js, ρ, h, hs, hf, hj, hn => by
    have hf : freeAtO (h.get p.1) (freeSymO r (h.put p.1 p.2)) = true := hf
    cases hg : h.get p.1 with
    | some x => rw [hg] at hf; cases hf
    | none =>
      rw [hg] at hf
      refine symO_live (sy := r) (js := js) (ρ := ρ.add p.1 ⟨0, j, 0⟩) (h := h.put p.1 p.2) hz (hs.addSymO hg hz hj.1) hf hj.2 ?_
      intro b L o e g l
      by_cases hb : p.1 = b
      · subst hb
        rw [Heap.get_put_same] at g; cases g
        rw [symHas_live hj.1] at l; cases l
      · rw [Heap.get_put_other h p.1 b _ hb] at g
        exact hn b L o (by simpa [Rho.add, hb] using e) g l
omit H in
theorem row_calls (h64 : P.globals.size ≤ 64) {laid : List (Nat × AObj)} {tot : Nat → Nat} {f : Nat} {args : List AV} {A : List Value} {w : World} (hw : LaidOk P laid tot w) (hz : 0 < w.heap.size)
    {sy : List (Key × AObj)} {js : List Nat} {k a : Key} {cs : List AV} (hfree : freeSymO sy ⟨startT laid P.globals.size, k⟩ = true) (hj : inSyms sy js) (hfa : noneAt (putSymO sy ⟨startT laid P.globals.size, k⟩) a = true)
    {B base : Nat} {C : Array Value} {e : Nat} {q : Nat × Nat} (hO : w.heap[B]? = some (.cells C e q)) (hcs : CellsRel (symRhoO (startRho tot P.globals.size) sy js) cs C base) (hne : ∀ g o, g < P.globals.size → laid.lookup g = some o → g ≠ B)
    (hr : RelL ((symRhoO (startRho tot P.globals.size) sy js).add a ⟨B, base, C.size⟩) args A)
    (good : ∀ CS0 m, Reach P (Base.at w (startRho tot P.globals.size)) f CS0 m (stA P laid f args sy a cs k) → Ends P (Base.at w (startRho tot P.globals.size)) f CS0 isTrue m) (hb : ∃ c, bodyOf P f = some c) :
    Calls P f ⟨A⟩ w fun e w' => e = .returned (.bool true) ∧ Grew w w' := by
  obtain ⟨c, hb⟩ := hb
  have h0 := start_sim (laid := laid) (tot := tot) h64 hw.1 (fun g o hg hl ρ => hw.2 g o hg hl _ ρ)
  have hs : Sim (Base.at w (startRho tot P.globals.size)) (startRho tot P.globals.size) ⟨startT laid P.globals.size, k⟩ w := ⟨h0.os, h0.out, h0.size, h0.old, h0.sub, h0.obj, h0.inj⟩
  have hlive : ∀ b L o, startRho tot P.globals.size b = some L → (Heap.mk (startT laid P.globals.size) k).get b = some o → o.live = true → L.B ≠ B := by
    intro b L o e1 g1 l1
    obtain ⟨g, hg, rfl, rfl⟩ := startRho_some e1
    have := startT_at (laid := laid) h64 hg
    have g1 : (startT laid P.globals.size).get (gkey g) = some o := g1
    rw [this] at g1
    cases hx : laid.lookup g with
    | none => rw [hx] at g1; cases g1; cases l1
    | some y => exact hne g y hg hx
  obtain ⟨hs2, hsub⟩ := symO_sim hz hs hfree hj
  have hlive2 := symO_live hz hs hfree hj hlive
  have hs3 := hs2.addRow (noneAt_is hfa) hO hcs hlive2
  have hsub3 : Sub (startRho tot P.globals.size) ((symRhoO (startRho tot P.globals.size) sy js).add a ⟨B, base, C.size⟩) := hsub.trans (Rho.sub_add (hs2.none_of_get (noneAt_is hfa)))
  intro CS
  have h1 := enter_reach (P := P) (w0 := Base.at w (startRho tot P.globals.size)) (f0 := f) (CS0 := CS) (dfr := .normal) trivial hs3 (Resv.nil _ _) ((start_glob h64).mono hsub3) .nil hr hb rfl
  have hst : stA P laid f args sy a cs k = enter P f args .normal [] ((putSymO sy ⟨startT laid P.globals.size, k⟩).put a (.fixed 0 cs)) c := by unfold stA; rw [hb]
  obtain ⟨ρ', fr, w', v, V, h', hsteps, hfn, hl, hv, hs', hg', hp⟩ := good CS _ (by rw [hst]; exact h1)
  refine ⟨.returned V, w', fr, ⟨?_, Grew.of_sim hs'.std⟩, hsteps, hfn, hl⟩
  rw [isTrue_rel hv hp]
end
end Go.VM
namespace Go.VM
/-! runs from a loop's head to a loop's head: ways that come to one state are one way -/
section
variable (P : Program) [Hook]
def loopTop (k : List AItem) : Bool := match k with
  | .inLoop _ :: _ => true
  | _ => false
def inFn (f : Nat) (c : Ctx) : Bool := match c with
  | .mk fn _ _ _ => Nat.beq fn f
def catS (a b : Option (List St)) : Option (List St) := match a, b with
  | some x, some y => some (cat x y)
  | _, _ => none
noncomputable def altS (ih : St → Option (List St)) (T : Slots) (k : List AItem) (c : Ctx) (l : List (AV × Heap)) : Option (List St) := List.rec (motive := fun _ => Option (List St)) (some []) (fun p _ r => catS (ih (altOne T k c p.1 p.2)) r) l
noncomputable def sGo (f : Nat) (ih : St → Option (List St)) (T : Slots) (k : List AItem) (c : Ctx) (h : Heap) : Option (List St) := cond (cond (loopTop k) (inFn f c) false) (some [.go T k c h]) (ih (stepGoF P T k c h))
noncomputable def sUn (ih : St → Option (List St)) (m : AMode) (T : Slots) (c : Ctx) (h : Heap) : Option (List St) := ih (stepUnF P m T c h)
noncomputable def sDone (post : AV → Heap → Bool) (v : AV) (h : Heap) : Option (List St) := cond (post v h) (some []) none
noncomputable def stepS (f : Nat) (post : AV → Heap → Bool) (_ : Nat) (ih : St → Option (List St)) (s : St) : Option (List St) := St.rec (motive := fun _ => Option (List St)) (sGo P f ih) (sUn P ih) (sDone post) (fun l T k c => altS ih T k c l) (fun _ => none) s
/-- the states at the heads of the loops of a function, over all ways; the ways that end answer as they must -/
noncomputable def stopsF (f : Nat) (post : AV → Heap → Bool) (n : Nat) : St → Option (List St) := Nat.rec (motive := fun _ => St → Option (List St)) (fun _ => none) (stepS P f post) n
/-- the first of them -/
noncomputable def fGo (f : Nat) (ih : St → St) (T : Slots) (k : List AItem) (c : Ctx) (h : Heap) : St := cond (cond (loopTop k) (inFn f c) false) (.go T k c h) (ih (stepGoF P T k c h))
noncomputable def fUn (ih : St → St) (m : AMode) (T : Slots) (c : Ctx) (h : Heap) : St := ih (stepUnF P m T c h)
noncomputable def fAlt (ih : St → St) (l : List (AV × Heap)) (T : Slots) (k : List AItem) (c : Ctx) : St := match l with
  | [] => .bad "no way"
  | p :: _ => ih (altOne T k c p.1 p.2)
noncomputable def stepF1 (f : Nat) (_ : Nat) (ih : St → St) (s : St) : St := St.rec (motive := fun _ => St) (fGo P f ih) (fUn P ih) (fun _ _ => .bad "ends") (fAlt ih) (fun w => .bad w) s
noncomputable def firstF (f : Nat) (n : Nat) : St → St := Nat.rec (motive := fun _ => St → St) (fun _ => .bad "fuel") (stepF1 P f) n
/-- slots that are not wanted any more -/
noncomputable def scrN : List Nat → ST → ST
  | [], t => t
  | s :: r, t => scrN r (t.set .junk (keyOf s))
noncomputable def scrS (ts : List Nat) (T : Slots) : Slots := match T with
  | .mk n t => .mk n (scrN ts t)
/-- a step behind a loop's head, some slots forgotten -/
noncomputable def nextS (ts : List Nat) (s : St) : St := match s with
  | .go T k c h => stepGoF P (scrS ts T) k c h
  | s => s
end
section
variable {P : Program} {w0 : Base} {f0 : Nat} {CS0 : List Frame} [Hook] {post : AV → Heap → Bool}
omit [Hook] in
theorem Ends.of_steps {m m' : Machine} (h : Steps P m m') (e : Ends P w0 f0 CS0 post m') : Ends P w0 f0 CS0 post m := by
  obtain ⟨ρ, fr, w, v, V, hh, a, b⟩ := e
  exact ⟨ρ, fr, w, v, V, hh, h.trans a, b⟩
omit [Hook] in
theorem catS_some {a b : Option (List St)} {l : List St} (h : catS a b = some l) : ∃ x y, a = some x ∧ b = some y ∧ (∀ s ∈ x, s ∈ l) ∧ ∀ s ∈ y, s ∈ l := by
  cases a with
  | none => cases h
  | some x => cases b with
    | none => cases h
    | some y =>
      have h : some (cat x y) = some l := h
      injection h with h
      subst h
      rw [cat_eq]
      exact ⟨x, y, rfl, rfl, fun s hs => List.mem_append_left _ hs, fun s hs => List.mem_append_right _ hs⟩
omit [Hook] in
theorem altS_mem {ih : St → Option (List St)} {T : Slots} {k : List AItem} {c : Ctx} : ∀ {l : List (AV × Heap)} {r : List St}, altS ih T k c l = some r → ∀ p ∈ l, ∃ x, ih (altOne T k c p.1 p.2) = some x ∧ ∀ s ∈ x, s ∈ r
  | [], _, _, p, hp => by cases hp
  | q :: l, r, h, p, hp => by
    have h' : catS (ih (altOne T k c q.1 q.2)) (altS ih T k c l) = some r := h
    obtain ⟨x, y, h1, h2, h3, h4⟩ := catS_some h'
    cases hp with
    | head => exact ⟨x, h1, h3⟩
    | tail _ hp =>
      obtain ⟨z, h5, h6⟩ := altS_mem h2 p hp
      exact ⟨z, h5, fun s hs => h4 s (h6 s hs)⟩
/-- what a state is that a loop's head gives -/
def AtTop (s : St) : Prop := match s with
  | .go _ k _ _ => loopTop k = true
  | _ => False
theorem stops_ends (hP : TypesOk P) (hX : Env P w0) (hF : P.follows .mixedOrders = true) {f : Nat} : ∀ (n : Nat) (s : St) (m : Machine) (l : List St), Reach P w0 f0 CS0 m s → stopsF P f post n s = some l →
    (∀ s' ∈ l, AtTop s' → ∀ m', Reach P w0 f0 CS0 m' s' → Ends P w0 f0 CS0 post m') → Ends P w0 f0 CS0 post m := by
  intro n
  induction n with
  | zero => intro s m l _ h; cases h
  | succ n ih =>
    intro s m l h hr hg
    cases s with
    | bad => cases hr
    | done v hh =>
      obtain ⟨ρ, fr, w, V, a, b, c, d, e, g⟩ := h
      have hr : cond (post v hh) (some ([] : List St)) none = some l := hr
      cases hp : post v hh with
      | false => rw [hp] at hr; cases hr
      | true => exact ⟨ρ, fr, w, v, V, hh, a, b, c, d, e, g, hp⟩
    | go T k c hh =>
      have hr : cond (cond (loopTop k) (inFn f c) false) (some [.go T k c hh]) (stopsF P f post n (stepGoF P T k c hh)) = some l := hr
      cases ht : loopTop k with
      | true =>
        rw [ht] at hr
        cases hi : inFn f c with
        | true =>
          rw [hi] at hr
          have hr : some [St.go T k c hh] = some l := hr
          injection hr with hr; subst hr
          exact hg _ List.mem_cons_self ht m h
        | false =>
          rw [hi] at hr
          obtain ⟨m', hsteps, hst⟩ := h
          rw [stepGoF_eq] at hr
          exact (ih _ _ l (stepGo_reach hP hX hF hst) hr hg).of_steps hsteps
      | false =>
        rw [ht] at hr
        obtain ⟨m', hsteps, hst⟩ := h
        have hr : stopsF P f post n (stepGoF P T k c hh) = some l := hr
        rw [stepGoF_eq] at hr
        exact (ih _ _ l (stepGo_reach hP hX hF hst) hr hg).of_steps hsteps
    | un am T c hh =>
      obtain ⟨m', hsteps, hst⟩ := h
      have hr : stopsF P f post n (stepUnF P am T c hh) = some l := hr
      rw [stepUnF_eq] at hr
      exact (ih _ _ l (stepUn_reach hst) hr hg).of_steps hsteps
    | alt al T k c =>
      obtain ⟨fn, ds, dfr, cs⟩ := c
      obtain ⟨p, hp, ρ, fr, CS, w, V, R, S, hsteps, hs, hres, hg', hb, hm, hsus, hcs, hbot, hv⟩ := h
      have hr : altS (stopsF P f post n) T k (.mk fn ds dfr cs) al = some l := hr
      obtain ⟨x, h1, hx⟩ := altS_mem hr p hp
      have h2 := finish_reach (am := .run) hs hres hg' hb hm hsus hcs hbot hv
      exact (ih _ _ x h2 h1 fun s' hs' => hg s' (hx s' hs')).of_steps hsteps
omit [Hook] in
theorem scrN_get (s : Nat) (n : Nat) : ∀ (ts : List Nat) (t : ST), (Slots.mk n (scrN ts t)).get s = .junk ∨ (Slots.mk n (scrN ts t)).get s = (Slots.mk n t).get s
  | [], t => .inr rfl
  | d :: r, t => by
    rcases scrN_get s n r (t.set .junk (keyOf d)) with h | h
    · exact .inl h
    · have e0 : (Slots.mk n (scrN (d :: r) t)).get s = (Slots.mk n (t.set .junk (keyOf d))).get s := h
      rw [e0]
      by_cases e : s = d
      · subst e; exact .inl (Slots.get_set_same ..)
      · exact .inr (Slots.get_set_other _ _ _ _ _ (fun e' => e e'.symm))
omit [Hook] in
theorem TRel.scr {ρ : Rho} {T : Slots} {t : Array Value} (hT : TRel ρ T t) (ts : List Nat) : TRel ρ (scrS ts T) t := by
  obtain ⟨n, r⟩ := T
  refine ⟨hT.n, fun s => ?_⟩
  rcases scrN_get s n ts r with h | h
  · show Rel ρ ((Slots.mk n (scrN ts r)).get s) _; rw [h]; exact .junk _
  · show Rel ρ ((Slots.mk n (scrN ts r)).get s) _; rw [h]; exact hT.at_ s
omit [Hook] in
theorem ActRel.scr {ρ : Rho} {h : Heap} {R : List (Nat × Key × AObj)} {T : Slots} {k : List AItem} {t : Array Value} {l : List Item} (hA : ActRel P ρ h R T k t l) (ht : loopTop k = true) (ts : List Nat) : ActRel P ρ h R (scrS ts T) k t l := by
  cases hA with
  | plain hT hk => exact .plain (hT.scr ts) hk
  | ops => cases ht
  | dops => cases ht
  | endRange => cases ht
theorem next_reach (hP : TypesOk P) (hX : Env P w0) (hF : P.follows .mixedOrders = true) {s : St} {m : Machine} (ts : List Nat) (ht : AtTop s) (h : Reach P w0 f0 CS0 m s) : ∃ m', Steps P m m' ∧ Reach P w0 f0 CS0 m' (nextS P ts s) := by
  cases s with
  | go T k c hh =>
    obtain ⟨m', hsteps, hst⟩ := h
    refine ⟨m', hsteps, ?_⟩
    show Reach P w0 f0 CS0 m' (stepGoF P (scrS ts T) k c hh)
    rw [stepGoF_eq]
    refine stepGo_reach hP hX hF ?_
    obtain ⟨fn, ds, dfr, cs⟩ := c
    obtain ⟨ρ, fr, CS, w, R, S, e, h1, h2, h3, h4, h5, hA, h6⟩ := hst
    exact ⟨ρ, fr, CS, w, R, S, e, h1, h2, h3, h4, h5, hA.scr ht ts, h6⟩
  | _ => exact ht.elim
/-- from head to head -/
theorem join_ends (hP : TypesOk P) (hX : Env P w0) (hF : P.follows .mixedOrders = true) {f n : Nat} {s S : St} {ts : List Nat} {q : Nat} (hl : (stopsF P f post n s).map (List.map (nextS P ts)) = some (List.replicate q S))
    (hS : ∀ m, Reach P w0 f0 CS0 m S → Ends P w0 f0 CS0 post m) : ∀ m, Reach P w0 f0 CS0 m s → Ends P w0 f0 CS0 post m := by
  intro m h
  cases hs : stopsF P f post n s with
  | none => rw [hs] at hl; cases hl
  | some l =>
    rw [hs] at hl
    have hl : some (l.map (nextS P ts)) = some (List.replicate q S) := hl
    injection hl with hl
    refine stops_ends hP hX hF n s m l h hs fun s' hs' ht m' h' => ?_
    obtain ⟨m2, hsteps, h2⟩ := next_reach hP hX hF ts ht h'
    have e : nextS P ts s' = S := List.eq_of_mem_replicate (hl ▸ List.mem_map_of_mem hs')
    rw [e] at h2
    exact (hS m2 h2).of_steps hsteps
/-- the last one: every way ends -/
theorem last_ends (hP : TypesOk P) (hX : Env P w0) (hF : P.follows .mixedOrders = true) {n : Nat} {s : St} (hr : runF P post n s = true) : ∀ m, Reach P w0 f0 CS0 m s → Ends P w0 f0 CS0 post m :=
  fun m h => runAll_reach hP hX hF n s m h (by rw [← runF_eq]; exact hr)
end
end Go.VM
namespace Go.VM
/-! the same, written out for the kernel: what is stored is not left to be reckoned -/
section
variable {α β : Type}
noncomputable def mo0 (g : α → (α → β) → β) (k : N8 α → β) (a0 a1 a2 a3 a4 a5 a6 a7 : α) : β := g a0 (fun y => k ⟨y, a1, a2, a3, a4, a5, a6, a7⟩)
noncomputable def mo1 (g : α → (α → β) → β) (k : N8 α → β) (a0 a1 a2 a3 a4 a5 a6 a7 : α) : β := g a1 (fun y => k ⟨a0, y, a2, a3, a4, a5, a6, a7⟩)
noncomputable def mo2 (g : α → (α → β) → β) (k : N8 α → β) (a0 a1 a2 a3 a4 a5 a6 a7 : α) : β := g a2 (fun y => k ⟨a0, a1, y, a3, a4, a5, a6, a7⟩)
noncomputable def mo3 (g : α → (α → β) → β) (k : N8 α → β) (a0 a1 a2 a3 a4 a5 a6 a7 : α) : β := g a3 (fun y => k ⟨a0, a1, a2, y, a4, a5, a6, a7⟩)
noncomputable def mo4 (g : α → (α → β) → β) (k : N8 α → β) (a0 a1 a2 a3 a4 a5 a6 a7 : α) : β := g a4 (fun y => k ⟨a0, a1, a2, a3, y, a5, a6, a7⟩)
noncomputable def mo5 (g : α → (α → β) → β) (k : N8 α → β) (a0 a1 a2 a3 a4 a5 a6 a7 : α) : β := g a5 (fun y => k ⟨a0, a1, a2, a3, a4, y, a6, a7⟩)
noncomputable def mo6 (g : α → (α → β) → β) (k : N8 α → β) (a0 a1 a2 a3 a4 a5 a6 a7 : α) : β := g a6 (fun y => k ⟨a0, a1, a2, a3, a4, a5, y, a7⟩)
noncomputable def mo7 (g : α → (α → β) → β) (k : N8 α → β) (a0 a1 a2 a3 a4 a5 a6 a7 : α) : β := g a7 (fun y => k ⟨a0, a1, a2, a3, a4, a5, a6, y⟩)
noncomputable def modN (d : D8) (g : α → (α → β) → β) (x : N8 α) (k : N8 α → β) : β := N8.rec (motive := fun _ => β) (fun a0 a1 a2 a3 a4 a5 a6 a7 => D8.rec (motive := fun _ => β) (mo0 g k a0 a1 a2 a3 a4 a5 a6 a7) (mo1 g k a0 a1 a2 a3 a4 a5 a6 a7) (mo2 g k a0 a1 a2 a3 a4 a5 a6 a7) (mo3 g k a0 a1 a2 a3 a4 a5 a6 a7) (mo4 g k a0 a1 a2 a3 a4 a5 a6 a7) (mo5 g k a0 a1 a2 a3 a4 a5 a6 a7) (mo6 g k a0 a1 a2 a3 a4 a5 a6 a7) (mo7 g k a0 a1 a2 a3 a4 a5 a6 a7) d) x
theorem modN_eq {g : α → (α → β) → β} {f : α → α} (hg : ∀ a k, g a k = k (f a)) (d : D8) (x : N8 α) (k : N8 α → β) : modN d g x k = k ((upd d).f f x) := by
  obtain ⟨a0, a1, a2, a3, a4, a5, a6, a7⟩ := x
  cases d <;> (show g _ _ = _; rw [hg]; rfl)
noncomputable def leafK (o : Option α) (_ : Option α) (k : Option α → β) : β := k o
noncomputable def setK5 (o : Option α) (a b c d e : D8) (t : RT5 α) (k : RT5 α → β) : β := modN e (modN d (modN c (modN b (modN a (leafK o))))) t k
theorem setK5_eq (o : Option α) (a b c d e : D8) (t : RT5 α) (k : RT5 α → β) : setK5 o a b c d e t k = k (RT.setD o a b c d e t) :=
  modN_eq (modN_eq (modN_eq (modN_eq (modN_eq (fun _ _ => rfl) a) b) c) d) e t k
end
section
variable {β : Type}
noncomputable def putK1 (o : AObj) (b : Key) (h : Heap) (k : Heap → β) : β := Heap.rec (motive := fun _ => β) (fun t n => RT.rec (motive := fun _ => β) (fun t => Key.rec (motive := fun _ => β) (fun a b c d e => setK5 (some o) a b c d e t (fun t => k ⟨⟨t⟩, n⟩)) b) t) h
theorem putK1_eq (o : AObj) (b : Key) (h : Heap) (k : Heap → β) : putK1 o b h k = k (h.put b o) := by
  obtain ⟨⟨t⟩, n⟩ := h
  obtain ⟨a, b, c, d, e⟩ := b
  exact setK5_eq (some o) a b c d e t _
noncomputable def putsK (objs : List (Key × AObj)) : Heap → (Heap → β) → β := List.rec (motive := fun _ => Heap → (Heap → β) → β) (fun h k => k h) (fun p _ ih h k => putK1 p.2 p.1 h (fun h => ih h k)) objs
theorem putsK_eq : ∀ (objs : List (Key × AObj)) (h : Heap) (k : Heap → β), putsK objs h k = k (putObjs objs h)
  | [], h, k => rfl
  | p :: r, h, k => by
    show putK1 p.2 p.1 h (fun h => putsK r h k) = _
    rw [putK1_eq]
    exact putsK_eq r (h.put p.1 p.2) k
end
noncomputable def applyK (r : MRow) (h : Heap) : Option (AV × Heap) := cond (havePre h r.pre) (cond (freeNew r.preT h r.post) (putsK r.post h (fun h => some (r.val, h))) none) none
theorem applyK_eq (r : MRow) (h : Heap) : applyK r h = applyM r h := by
  unfold applyK applyM
  rw [putsK_eq]
noncomputable def mrowK (args : List AV) (h : Heap) : List MRow → Option (AV × Heap)
  | [] => none
  | r :: rs => cond (beqL (beqA 60) args r.args) (match applyK r h with | some x => some x | none => mrowK args h rs) (mrowK args h rs)
theorem mrowK_eq (args : List AV) (h : Heap) : ∀ rows : List MRow, mrowK args h rows = mrowP args h rows
  | [] => rfl
  | r :: rs => by
    unfold mrowK mrowP
    rw [applyK_eq, mrowK_eq args h rs]
    all_goals rfl
section
variable {P : Program} {w0 : Base} {f : Nat} {rows : List MRow}
theorem PrimOk.ofK (h : PrimOk P w0 f (fun args h => mrowP args h rows)) : PrimOk P w0 f (fun args h => mrowK args h rows) := by
  have e : (fun args h => mrowK args h rows) = fun args h => mrowP args h rows := by funext args h; exact mrowK_eq args h rows
  rw [e]; exact h
end
section
variable (P : Program) [Hook]
noncomputable def scrF (ts : List Nat) : ST → (ST → St) → St := List.rec (motive := fun _ => ST → (ST → St) → St) (fun t k => k t) (fun d _ ih t k => (pb d).f .junk t (fun t => ih t k)) ts
omit [Hook] in
theorem scrF_eq : ∀ (ts : List Nat) (t : ST) (k : ST → St), scrF ts t k = k (scrN ts t)
  | [], t, k => rfl
  | d :: r, t, k => by
    show (pb d).f .junk t (fun t => scrF r t k) = _
    rw [pb_eq]
    exact scrF_eq r (t.set .junk (keyOf d)) k
noncomputable def nextGo (ts : List Nat) (T : Slots) (k : List AItem) (c : Ctx) (h : Heap) : St := Slots.rec (motive := fun _ => St) (fun n t => scrF ts t (fun t => stepGoF P ⟨n, t⟩ k c h)) T
noncomputable def nextK (ts : List Nat) (s : St) : St := St.rec (motive := fun _ => St) (nextGo P ts) (fun m T c h => .un m T c h) (fun v h => .done v h) (fun l T k c => .alt l T k c) (fun w => .bad w) s
theorem nextK_eq (ts : List Nat) (s : St) : nextK P ts s = nextS P ts s := by
  cases s with
  | go T k c h =>
    obtain ⟨n, t⟩ := T
    show scrF ts t (fun t => stepGoF P ⟨n, t⟩ k c h) = _
    rw [scrF_eq]; rfl
  | _ => rfl
end
section
variable {P : Program} {w0 : Base} {f0 : Nat} {CS0 : List Frame} [Hook] {post : AV → Heap → Bool}
theorem join_endsF (hP : TypesOk P) (hX : Env P w0) (hF : P.follows .mixedOrders = true) {f n : Nat} {s S : St} {ts : List Nat} {q : Nat} (hl : (stopsF P f post n s).map (List.map (nextK P ts)) = some (List.replicate q S))
    (hS : ∀ m, Reach P w0 f0 CS0 m S → Ends P w0 f0 CS0 post m) : ∀ m, Reach P w0 f0 CS0 m s → Ends P w0 f0 CS0 post m := by
  have e : nextK P ts = nextS P ts := by funext s; exact nextK_eq P ts s
  rw [e] at hl
  exact join_ends hP hX hF hl hS
end
end Go.VM
namespace Go.VM
/-! what is stored, written out once more: each path to a key -/
theorem upd_sel {α : Type} {f : α → α} (d : D8) (x : N8 α) (h : f ((sel d).f x) = (sel d).f x) : (upd d).f f x = x := by
  obtain ⟨a0, a1, a2, a3, a4, a5, a6, a7⟩ := x
  cases d
  · exact congrArg (fun y => N8.mk y a1 a2 a3 a4 a5 a6 a7) h
  · exact congrArg (fun y => N8.mk a0 y a2 a3 a4 a5 a6 a7) h
  · exact congrArg (fun y => N8.mk a0 a1 y a3 a4 a5 a6 a7) h
  · exact congrArg (fun y => N8.mk a0 a1 a2 y a4 a5 a6 a7) h
  · exact congrArg (fun y => N8.mk a0 a1 a2 a3 y a5 a6 a7) h
  · exact congrArg (fun y => N8.mk a0 a1 a2 a3 a4 y a6 a7) h
  · exact congrArg (fun y => N8.mk a0 a1 a2 a3 a4 a5 y a7) h
  · exact congrArg (fun y => N8.mk a0 a1 a2 a3 a4 a5 a6 y) h
theorem set_get (a b c d e : D8) (t : RT5 AObj) : RT.setD (RT.getD t a b c d e) a b c d e t = t :=
  upd_sel e t (upd_sel d _ (upd_sel c _ (upd_sel b _ (upd_sel a _ rfl))))
section
variable {β : Type}
noncomputable def forceO (o : Option AObj) (k : Option AObj → β) : β := Option.rec (motive := fun _ => β) (k none) (fun o => k (some o)) o
theorem forceO_eq (o : Option AObj) (k : Option AObj → β) : forceO o k = k o := by cases o <;> rfl
noncomputable def touchK (b : Key) (h : Heap) (k : Heap → β) : β := Heap.rec (motive := fun _ => β) (fun t n => RT.rec (motive := fun _ => β) (fun t => Key.rec (motive := fun _ => β) (fun a b c d e => forceO (RT.getD t a b c d e) (fun o => setK5 o a b c d e t (fun t => k ⟨⟨t⟩, n⟩))) b) t) h
theorem touchK_eq (b : Key) (h : Heap) (k : Heap → β) : touchK b h k = k h := by
  obtain ⟨⟨t⟩, n⟩ := h
  obtain ⟨a, b, c, d, e⟩ := b
  show forceO (RT.getD t a b c d e) (fun o => setK5 o a b c d e t (fun t => k ⟨⟨t⟩, n⟩)) = _
  rw [forceO_eq, setK5_eq, set_get]
/-- so many keys, from one on -/
noncomputable def touchN (n : Nat) : Key → Heap → (Heap → β) → β := Nat.rec (motive := fun _ => Key → Heap → (Heap → β) → β) (fun _ h k => k h) (fun _ ih b h k => touchK b h (fun h => ih (incr b) h k)) n
theorem touchN_eq : ∀ (n : Nat) (b : Key) (h : Heap) (k : Heap → β), touchN n b h k = k h
  | 0, b, h, k => rfl
  | n + 1, b, h, k => by
    show touchK b h (fun h => touchN n (incr b) h k) = _
    rw [touchK_eq]
    exact touchN_eq n (incr b) h k
noncomputable def touchL (l : List (Key × Nat)) : Heap → (Heap → β) → β := List.rec (motive := fun _ => Heap → (Heap → β) → β) (fun h k => k h) (fun p _ ih h k => touchN p.2 p.1 h (fun h => ih h k)) l
theorem touchL_eq : ∀ (l : List (Key × Nat)) (h : Heap) (k : Heap → β), touchL l h k = k h
  | [], h, k => rfl
  | p :: r, h, k => by
    show touchN p.2 p.1 h (fun h => touchL r h k) = _
    rw [touchN_eq]
    exact touchL_eq r h k
end
section
variable (P : Program) [Hook]
noncomputable def nextGoT (ks : List (Key × Nat)) (ts : List Nat) (T : Slots) (k : List AItem) (c : Ctx) (h : Heap) : St := touchL ks h (fun h => nextGo P ts T k c h)
noncomputable def nextT (ks : List (Key × Nat)) (ts : List Nat) (s : St) : St := St.rec (motive := fun _ => St) (nextGoT P ks ts) (fun m T c h => .un m T c h) (fun v h => .done v h) (fun l T k c => .alt l T k c) (fun w => .bad w) s
theorem nextT_eq (ks : List (Key × Nat)) (ts : List Nat) (s : St) : nextT P ks ts s = nextK P ts s := by
  cases s with
  | go T k c h =>
    show touchL ks h (fun h => nextGo P ts T k c h) = _
    rw [touchL_eq]; rfl
  | _ => rfl
end
section
variable {P : Program} {w0 : Base} {f0 : Nat} {CS0 : List Frame} [Hook] {post : AV → Heap → Bool}
theorem join_endsT (hP : TypesOk P) (hX : Env P w0) (hF : P.follows .mixedOrders = true) {f n : Nat} {s S : St} {ks : List (Key × Nat)} {ts : List Nat} {q : Nat} (hl : (stopsF P f post n s).map (List.map (nextT P ks ts)) = some (List.replicate q S))
    (hS : ∀ m, Reach P w0 f0 CS0 m S → Ends P w0 f0 CS0 post m) : ∀ m, Reach P w0 f0 CS0 m s → Ends P w0 f0 CS0 post m := by
  have e : nextT P ks ts = nextK P ts := by funext s; exact nextT_eq P ks ts s
  rw [e] at hl
  exact join_endsF hP hX hF hl hS
end
end Go.VM
namespace Go.VM
/-! objects that are not looked at any more, forgotten at a loop's head: by the slots that lead to them -/
section
variable {w0 : Base} {ρ : Rho} {h : Heap} {w : World}
theorem Sim.forget (hs : Sim w0 ρ h w) (b : Key) : Sim w0 ρ (h.put b .dead) w := by
  refine ⟨hs.os, hs.out, hs.size, hs.old, hs.sub, ?_, ?_⟩
  · intro k K e
    by_cases hk : b = k
    · subst hk
      obtain ⟨_, _, hlt, _⟩ := hs.obj b K e
      exact ⟨.dead, Heap.get_put_same h b _, hlt, trivial⟩
    · obtain ⟨o, ho, hlt, hr⟩ := hs.obj k K e
      exact ⟨o, by rw [Heap.get_put_other h b k _ hk]; exact ho, hlt, hr⟩
  · intro b1 b2 L1 L2 o1 o2 e1 e2 g1 g2 l1 l2 hB
    have key : ∀ bx ox, (h.put b .dead).get bx = some ox → ox.live = true → h.get bx = some ox := by
      intro bx ox g l
      by_cases hx : b = bx
      · subst hx; rw [Heap.get_put_same] at g; cases g; cases l
      · rw [Heap.get_put_other h b bx _ hx] at g; exact g
    exact hs.inj b1 b2 L1 L2 o1 o2 e1 e2 (key _ _ g1 l1) (key _ _ g2 l2) l1 l2 hB
theorem Resv.forget {R : List (Nat × Key × AObj)} (hr : Resv ρ h R) {b : Key} {L : Loc} (hb : ρ b = some L) : Resv ρ (h.put b .dead) R :=
  ⟨hr.nodup, hr.none_, fun x hx => by
    have hne : b ≠ x.2.1 := fun e => by have := hr.none_ x hx; rw [← e, hb] at this; cases this
    rw [Heap.get_put_other h b _ _ hne]; exact hr.obj x hx⟩
end
noncomputable def deadV (v : AV) (h : Heap) : Heap := match v with
  | .ptr b _ => h.put b .dead
  | _ => h
noncomputable def deadG (ds : List Nat) (T : Slots) (h : Heap) : Heap := List.rec (motive := fun _ => Heap) h (fun d _ ih => deadV (T.get d) ih) ds
theorem deadG_ok {w0 : Base} {ρ : Rho} {w : World} {T : Slots} {t : Array Value} {R : List (Nat × Key × AObj)} (hT : TRel ρ T t) : ∀ (ds : List Nat) {h : Heap}, Sim w0 ρ h w → Resv ρ h R → Sim w0 ρ (deadG ds T h) w ∧ Resv ρ (deadG ds T h) R
  | [], _, hs, hr => ⟨hs, hr⟩
  | d :: ds, h, hs, hr => by
    obtain ⟨h1, h2⟩ := deadG_ok hT ds hs hr
    show Sim w0 ρ (deadV (T.get d) (deadG ds T h)) w ∧ Resv ρ (deadV (T.get d) (deadG ds T h)) R
    unfold deadV
    split
    · rename_i b o he
      have hrel := hT.at_ d
      rw [he] at hrel
      generalize t.getD d Go.undef = V at hrel
      cases hrel with
      | ptr _ _ L hb => exact ⟨h1.forget b, h2.forget hb⟩
    · exact ⟨h1, h2⟩
section
variable (P : Program) [Hook]
noncomputable def forgetS (ds : List Nat) (s : St) : St := match s with
  | .go T k c h => .go T k c (deadG ds T h)
  | s => s
noncomputable def nextGoZ (ds : List Nat) (ks : List (Key × Nat)) (ts : List Nat) (T : Slots) (k : List AItem) (c : Ctx) (h : Heap) : St := nextGoT P ks ts T k c (deadG ds T h)
noncomputable def nextZ (ds : List Nat) (ks : List (Key × Nat)) (ts : List Nat) (s : St) : St := St.rec (motive := fun _ => St) (nextGoZ P ds ks ts) (fun m T c h => .un m T c h) (fun v h => .done v h) (fun l T k c => .alt l T k c) (fun w => .bad w) s
theorem nextZ_eq (ds : List Nat) (ks : List (Key × Nat)) (ts : List Nat) (s : St) : nextZ P ds ks ts s = nextS P ts (forgetS ds s) := by
  have e : nextZ P ds ks ts s = nextT P ks ts (forgetS ds s) := by cases s <;> rfl
  rw [e, nextT_eq, nextK_eq]
end
section
variable {P : Program} {w0 : Base} {f0 : Nat} {CS0 : List Frame} [Hook] {post : AV → Heap → Bool}
omit [Hook] in
theorem ActRel.tr {ρ : Rho} {h : Heap} {R : List (Nat × Key × AObj)} {T : Slots} {k : List AItem} {t : Array Value} {l : List Item} (hA : ActRel P ρ h R T k t l) (ht : loopTop k = true) (h' : Heap) : TRel ρ T t ∧ ActRel P ρ h' R T k t l := by
  cases hA with
  | plain hT hk => exact ⟨hT, .plain hT hk⟩
  | ops => cases ht
  | dops => cases ht
  | endRange => cases ht
omit [Hook] in
theorem forget_reach {s : St} {m : Machine} (ds : List Nat) (ht : AtTop s) (h : Reach P w0 f0 CS0 m s) : Reach P w0 f0 CS0 m (forgetS ds s) ∧ AtTop (forgetS ds s) := by
  cases s with
  | go T k c hh =>
    refine ⟨?_, ht⟩
    obtain ⟨m', hsteps, hst⟩ := h
    refine ⟨m', hsteps, ?_⟩
    obtain ⟨fn, dsl, dfr, cs⟩ := c
    obtain ⟨ρ, fr, CS, w, R, S, e, h1, h2, h3, h4, h5, hA, h6⟩ := hst
    obtain ⟨hT, hA'⟩ := hA.tr ht (deadG ds T hh)
    obtain ⟨g1, g2⟩ := deadG_ok hT ds h1 h2
    exact ⟨ρ, fr, CS, w, R, S, e, g1, g2, h3, h4, h5, hA', h6⟩
  | _ => exact ht.elim
theorem join_endsD (hP : TypesOk P) (hX : Env P w0) (hF : P.follows .mixedOrders = true) {f n : Nat} {s S : St} {ds : List Nat} {ks : List (Key × Nat)} {ts : List Nat} {q : Nat} (hl : (stopsF P f post n s).map (List.map (nextZ P ds ks ts)) = some (List.replicate q S))
    (hS : ∀ m, Reach P w0 f0 CS0 m S → Ends P w0 f0 CS0 post m) : ∀ m, Reach P w0 f0 CS0 m s → Ends P w0 f0 CS0 post m := by
  intro m h
  cases hs : stopsF P f post n s with
  | none => rw [hs] at hl; cases hl
  | some l =>
    rw [hs] at hl
    have hl : some (l.map (nextZ P ds ks ts)) = some (List.replicate q S) := hl
    injection hl with hl
    refine stops_ends hP hX hF n s m l h hs fun s' hs' ht m' h' => ?_
    obtain ⟨h1, ht1⟩ := forget_reach (P := P) ds ht h'
    obtain ⟨m2, hsteps, h2⟩ := next_reach hP hX hF ts ht1 h1
    have e : nextZ P ds ks ts s' = S := List.eq_of_mem_replicate (hl ▸ List.mem_map_of_mem hs')
    rw [nextZ_eq] at e
    rw [e] at h2
    exact (hS m2 h2).of_steps hsteps
end
end Go.VM
namespace Go.VM
/-! maps of which the content is not known any more, at a loop's head: by the slots that lead to them -/
def newI (a : Int) : List Int → Bool
  | [] => true
  | b :: r => cond (intEq a b) false (newI a r)
/-- distinct integers, texts of one length -/
def intEnts (l : Nat) : List Int → List (AV × AV × Nat) → Bool
  | _, [] => true
  | seen, (.int .i64 a, v, _) :: r => cond (and (newI a seen) (lenIs l v)) (intEnts l (a :: seen) r) false
  | _, _ :: _ => false
def wkMap (l n : Nat) (o : Option AObj) : Bool := match o with
  | some (.map es _) => and (intEnts l [] es) (Nat.ble (len es) n)
  | some (.umap m l' n') => and (Nat.beq l' l) (and (lenIsM l m) (Nat.ble n' n))
  | _ => false
noncomputable def weakM (l n : Nat) (b : Key) (h : Heap) : Heap := cond (wkMap l n (h.get b)) (h.put b (.umap none l n)) h
noncomputable def weakC (l n : Nat) (v : Option AV) (h : Heap) : Heap := match v with
  | some (.map b) => weakM l n b h
  | _ => h
noncomputable def weakV (p : Nat × Nat × Nat) (v : AV) (h : Heap) : Heap := match v with
  | .ptr b off => weakC p.2.1 p.2.2 (cellAt h b (off + p.1)) h
  | _ => h
/-- slot, place, length, how many -/
noncomputable def weakG (ws : List (Nat × Nat × Nat × Nat)) (T : Slots) (h : Heap) : Heap := List.rec (motive := fun _ => Heap) h (fun p _ ih => weakV p.2 (T.get p.1) ih) ws
section
variable {w0 : Base} {ρ : Rho} {h : Heap} {w : World}
theorem newI_not {a : Int} : ∀ {l : List Int}, newI a l = true → a ∉ l
  | [], _, hm => by cases hm
  | b :: r, hn, hm => by
    unfold newI at hn
    cases hq : intEq a b with
    | true => rw [hq] at hn; cases hn
    | false =>
      rw [hq] at hn
      cases hm with
      | head => rw [(intEq_iff _ _).2 rfl] at hq; cases hq
      | tail _ hm => exact newI_not hn hm
theorem intEnts_rel {l : Nat} : ∀ {es : List (AV × AV × Nat)} {sn : List Int} {E : List MapEntry}, intEnts l sn es = true → ERel ρ es E → ∃ ks : List (Int × Nat), (ks.map (·.1)).Nodup ∧ (∀ a ∈ ks.map (·.1), a ∉ sn) ∧ ERel ρ (ks.map (uEnt none l)) E
  | [], _, _, _, he => by cases he; exact ⟨[], .nil, (fun _ h => by cases h), .nil⟩
  | (k, v, c) :: r, sn, E, hi, he => by
    have hk : ∃ a, k = .int .i64 a := by
      unfold intEnts at hi
      split at hi
      · rename_i heq; cases heq
      · rename_i heq; cases heq; exact ⟨_, rfl⟩
      · cases hi
    obtain ⟨a, rfl⟩ := hk
    have hi : cond (and (newI a sn) (lenIs l v)) (intEnts l (a :: sn) r) false = true := hi
    · cases hc : and (newI a sn) (lenIs l v) with
      | false => rw [hc] at hi; cases hi
      | true =>
        rw [hc] at hi
        simp only [Bool.and_eq_true] at hc
        cases he with
        | cons _ _ K V _ _ R hk hv hr =>
          obtain ⟨ks, h1, h2, h3⟩ := intEnts_rel hi hr
          refine ⟨(a, c) :: ks, ?_, ?_, .cons _ _ K V _ _ R hk (lenIs_rel hc.2 hv) h3⟩
          · rw [List.map_cons, List.nodup_cons]
            exact ⟨fun hm => h2 a hm List.mem_cons_self, h1⟩
          · intro x hx
            rw [List.map_cons] at hx
            cases hx with
            | head => exact newI_not hc.1
            | tail _ hx => exact fun hm => h2 x hx (List.mem_cons_of_mem _ hm)
theorem uEnt_forget {m : Option (Int × AV)} {l : Nat} (hm : lenIsM l m = true) : ∀ {ks : List (Int × Nat)} {E : List MapEntry}, ERel ρ (ks.map (uEnt m l)) E → ERel ρ (ks.map (uEnt none l)) E
  | [], _, he => by cases he; exact .nil
  | p :: r, _, he => by
    cases he with
    | cons _ _ K V c _ R hk hv hr =>
      refine .cons _ _ K V _ _ R hk ?_ (uEnt_forget hm hr)
      show Rel ρ (.ustr l) V
      have hv : Rel ρ (uVal m l p.1) V := hv
      cases m with
      | none => exact hv
      | some q =>
        have hv : Rel ρ (if p.1 = q.1 then q.2 else .ustr l) V := hv
        split at hv
        · exact lenIs_rel hm hv
        · exact hv
theorem Resv.put {R : List (Nat × Key × AObj)} (hr : Resv ρ h R) {b : Key} {L : Loc} (hb : ρ b = some L) (o : AObj) : Resv ρ (h.put b o) R :=
  ⟨hr.nodup, hr.none_, fun x hx => by
    have hne : b ≠ x.2.1 := fun e => by have := hr.none_ x hx; rw [← e, hb] at this; cases this
    rw [Heap.get_put_other h b _ _ hne]; exact hr.obj x hx⟩
theorem weakM_ok {R : List (Nat × Key × AObj)} (hs : Sim w0 ρ h w) (hr : Resv ρ h R) {b : Key} {L : Loc} (hb : ρ b = some L) (l n : Nat) : Sim w0 ρ (weakM l n b h) w ∧ Resv ρ (weakM l n b h) R := by
  unfold weakM
  cases hc : wkMap l n (h.get b) with
  | false => exact ⟨hs, hr⟩
  | true =>
    rw [cond_true]
    unfold wkMap at hc
    split at hc
    · rename_i es clock hg
      simp only [Bool.and_eq_true] at hc
      refine ⟨hs.less hg rfl fun L' _ ho => ?_, hr.put hb _⟩
      obtain ⟨hN, E, hO, hE⟩ := ho
      obtain ⟨ks, h1, _, h3⟩ := intEnts_rel hc.1 hE
      refine ⟨hN, E, clock, hO, ?_, ks, h1, (fun p hp => nomatch hp), h3⟩
      have := Nat.le_of_ble_eq_true hc.2
      rw [len_eq] at this
      have h4 := hE.length
      rw [Array.length_toList] at h4
      omega
    · rename_i m l' n' hg
      simp only [Bool.and_eq_true] at hc
      obtain ⟨hl, hm, hn⟩ := hc
      have hl := Nat.eq_of_beq_eq_true hl
      subst hl
      refine ⟨hs.less hg rfl fun L' _ ho => ?_, hr.put hb _⟩
      obtain ⟨hN, E, clock, hO, hsz, ks, h1, _, h3⟩ := ho
      have := Nat.le_of_ble_eq_true hn
      exact ⟨hN, E, clock, hO, by omega, ks, h1, (fun p hp => nomatch hp), uEnt_forget hm h3⟩
    · cases hc
theorem weakV_ok {R : List (Nat × Key × AObj)} (hs : Sim w0 ρ h w) (hr : Resv ρ h R) {v : AV} {V : Value} (hv : Rel ρ v V) (p : Nat × Nat × Nat) : Sim w0 ρ (weakV p v h) w ∧ Resv ρ (weakV p v h) R := by
  unfold weakV
  split
  · rename_i b off
    cases hv with
    | ptr _ _ L hb =>
      unfold weakC
      split
      · rename_i k hc
        obtain ⟨V', hr', _⟩ := load_cell hs hb hc
        cases hr' with
        | map _ M hk => exact weakM_ok hs hr hk _ _
      · exact ⟨hs, hr⟩
  · exact ⟨hs, hr⟩
theorem weakG_ok {T : Slots} {t : Array Value} {R : List (Nat × Key × AObj)} (hT : TRel ρ T t) : ∀ (ws : List (Nat × Nat × Nat × Nat)) {h : Heap}, Sim w0 ρ h w → Resv ρ h R → Sim w0 ρ (weakG ws T h) w ∧ Resv ρ (weakG ws T h) R
  | [], _, hs, hr => ⟨hs, hr⟩
  | p :: ws, h, hs, hr => by
    obtain ⟨h1, h2⟩ := weakG_ok hT ws hs hr
    exact weakV_ok h1 h2 (hT.at_ p.1) p.2
end
section
variable (P : Program) [Hook]
/-- the first way that comes to a loop's head -/
noncomputable def foAlt (ih : St → Option St) (T : Slots) (k : List AItem) (c : Ctx) (l : List (AV × Heap)) : Option St := List.rec (motive := fun _ => Option St) none (fun p _ r => Option.rec (motive := fun _ => Option St) r (fun s => some s) (ih (altOne T k c p.1 p.2))) l
noncomputable def foGo (f : Nat) (ih : St → Option St) (T : Slots) (k : List AItem) (c : Ctx) (h : Heap) : Option St := cond (cond (loopTop k) (inFn f c) false) (some (.go T k c h)) (ih (stepGoF P T k c h))
noncomputable def foStep (f : Nat) (_ : Nat) (ih : St → Option St) (s : St) : Option St := St.rec (motive := fun _ => Option St) (foGo P f ih) (fun m T c h => ih (stepUnF P m T c h)) (fun _ _ => none) (fun l T k c => foAlt ih T k c l) (fun _ => none) s
noncomputable def firstO (f n : Nat) : St → Option St := Nat.rec (motive := fun _ => St → Option St) (fun _ => none) (foStep P f) n
noncomputable def firstB (f n : Nat) (s : St) : St := Option.rec (motive := fun _ => St) (.bad "no head") (fun s => s) (firstO P f n s)
noncomputable def lessS (ws : List (Nat × Nat × Nat × Nat)) (s : St) : St := match s with
  | .go T k c h => .go T k c (weakG ws T h)
  | s => s
noncomputable def nextGoW (ws : List (Nat × Nat × Nat × Nat)) (ds : List Nat) (ks : List (Key × Nat)) (ts : List Nat) (T : Slots) (k : List AItem) (c : Ctx) (h : Heap) : St := nextGoZ P ds ks ts T k c (weakG ws T h)
noncomputable def nextW (ws : List (Nat × Nat × Nat × Nat)) (ds : List Nat) (ks : List (Key × Nat)) (ts : List Nat) (s : St) : St := St.rec (motive := fun _ => St) (nextGoW P ws ds ks ts) (fun m T c h => .un m T c h) (fun v h => .done v h) (fun l T k c => .alt l T k c) (fun w => .bad w) s
theorem nextW_eq (ws : List (Nat × Nat × Nat × Nat)) (ds : List Nat) (ks : List (Key × Nat)) (ts : List Nat) (s : St) : nextW P ws ds ks ts s = nextS P ts (forgetS ds (lessS ws s)) := by
  have e : nextW P ws ds ks ts s = nextZ P ds ks ts (lessS ws s) := by cases s <;> rfl
  rw [e, nextZ_eq]
end
section
variable {P : Program} {w0 : Base} {f0 : Nat} {CS0 : List Frame} [Hook] {post : AV → Heap → Bool}
omit [Hook] in
theorem less_reach {s : St} {m : Machine} (ws : List (Nat × Nat × Nat × Nat)) (ht : AtTop s) (h : Reach P w0 f0 CS0 m s) : Reach P w0 f0 CS0 m (lessS ws s) ∧ AtTop (lessS ws s) := by
  cases s with
  | go T k c hh =>
    refine ⟨?_, ht⟩
    obtain ⟨m', hsteps, hst⟩ := h
    refine ⟨m', hsteps, ?_⟩
    obtain ⟨fn, dsl, dfr, cs⟩ := c
    obtain ⟨ρ, fr, CS, w, R, S, e, h1, h2, h3, h4, h5, hA, h6⟩ := hst
    obtain ⟨hT, hA'⟩ := hA.tr ht (weakG ws T hh)
    obtain ⟨g1, g2⟩ := weakG_ok hT ws h1 h2
    exact ⟨ρ, fr, CS, w, R, S, e, g1, g2, h3, h4, h5, hA', h6⟩
  | _ => exact ht.elim
theorem join_endsW (hP : TypesOk P) (hX : Env P w0) (hF : P.follows .mixedOrders = true) {f n : Nat} {s S : St} {ws : List (Nat × Nat × Nat × Nat)} {ds : List Nat} {ks : List (Key × Nat)} {ts : List Nat} {q : Nat} (hl : (stopsF P f post n s).map (List.map (nextW P ws ds ks ts)) = some (List.replicate q S))
    (hS : ∀ m, Reach P w0 f0 CS0 m S → Ends P w0 f0 CS0 post m) : ∀ m, Reach P w0 f0 CS0 m s → Ends P w0 f0 CS0 post m := by
  intro m h
  cases hs : stopsF P f post n s with
  | none => rw [hs] at hl; cases hl
  | some l =>
    rw [hs] at hl
    have hl : some (l.map (nextW P ws ds ks ts)) = some (List.replicate q S) := hl
    injection hl with hl
    refine stops_ends hP hX hF n s m l h hs fun s' hs' ht m' h' => ?_
    obtain ⟨h0, ht0⟩ := less_reach (P := P) ws ht h'
    obtain ⟨h1, ht1⟩ := forget_reach (P := P) ds ht0 h0
    obtain ⟨m2, hsteps, h2⟩ := next_reach hP hX hF ts ht1 h1
    have e : nextW P ws ds ks ts s' = S := List.eq_of_mem_replicate (hl ▸ List.mem_map_of_mem hs')
    rw [nextW_eq] at e
    rw [e] at h2
    exact (hS m2 h2).of_steps hsteps
end
end Go.VM
namespace Go.VM
/-! a start with a row as long as a symbol says -/
section
variable {w0 : Base} {w : World} {ρ : Rho} {h : Heap}
theorem Sim.addRowG (hs : Sim w0 ρ h w) {a b : Key} {M : Loc} (ha : h.get a = none) (hM : ρ b = some M) {B base : Nat} {C : Array Value} {e : Nat} {q : Nat × Nat} {v : AV} (hO : w.heap[B]? = some (.cells C e q)) (hr : ∀ i, i < M.base → ∃ V, C[base + i]? = some V ∧ Rel ρ v V)
    (hne : ∀ b L o, ρ b = some L → h.get b = some o → o.live = true → L.B ≠ B) : Sim w0 (ρ.add a ⟨B, base, C.size⟩) (h.put a (.rowG v b)) w := by
  have hn := hs.none_of_get ha
  have hsub : Sub ρ (ρ.add a ⟨B, base, C.size⟩) := Rho.sub_add hn
  have other : ∀ k K, (ρ.add a ⟨B, base, C.size⟩) k = some K → a ≠ k → ρ k = some K := fun k K e hk => by simpa [Rho.add, hk] using e
  refine ⟨hs.os, hs.out, hs.size, hs.old, hs.sub.trans hsub, ?_, ?_⟩
  · intro k K e'
    by_cases hk : a = k
    · subst hk
      rw [Rho.add_same] at e'; cases e'
      exact ⟨_, Heap.get_put_same h a _, (Array.getElem?_eq_some_iff.1 hO).1, C, q, e, M, hO, rfl, hsub _ _ hM, fun i hi => let ⟨V, h1, h2⟩ := hr i hi; ⟨V, h1, h2.mono hsub⟩⟩
    · obtain ⟨o, ho, hlt, hrel⟩ := hs.obj k K (other k K e' hk)
      exact ⟨o, by rw [Heap.get_put_other h a k _ hk]; exact ho, hlt, hrel.mono hsub⟩
  · intro b1 b2 L1 L2 o1 o2 e1 e2 g1 g2 l1 l2 hB
    by_cases h1 : a = b1
    · by_cases h2 : a = b2
      · rw [← h1, ← h2]
      · subst h1
        rw [Rho.add_same] at e1; cases e1
        rw [Heap.get_put_other h a b2 _ h2] at g2
        exact absurd hB.symm (hne b2 L2 o2 (other _ _ e2 h2) g2 l2)
    · rw [Heap.get_put_other h a b1 _ h1] at g1
      by_cases h2 : a = b2
      · subst h2
        rw [Rho.add_same] at e2; cases e2
        exact absurd hB (hne b1 L1 o1 (other _ _ e1 h1) g1 l1)
      · rw [Heap.get_put_other h a b2 _ h2] at g2
        exact hs.inj b1 b2 L1 L2 o1 o2 (other _ _ e1 h1) (other _ _ e2 h2) g1 g2 l1 l2 hB
end
section
variable [H : Hook] {P : Program}
noncomputable def stG (P : Program) (laid : List (Nat × AObj)) (f : Nat) (args : List AV) (sy : List (Key × AObj)) (a : Key) (v : AV) (b : Key) (k : Key) : St := match bodyOf P f with
  | some c => enter P f args .normal [] ((putSymO sy ⟨startT laid P.globals.size, k⟩).put a (.rowG v b)) c
  | none => .bad "no body"
omit H in
theorem row_callsG (h64 : P.globals.size ≤ 64) {laid : List (Nat × AObj)} {tot : Nat → Nat} {f : Nat} {args : List AV} {A : List Value} {w : World} (hw : LaidOk P laid tot w) (hz : 0 < w.heap.size)
    {sy : List (Key × AObj)} {js : List Nat} {k a b : Key} {v : AV} {M : Loc} (hfree : freeSymO sy ⟨startT laid P.globals.size, k⟩ = true) (hj : inSyms sy js) (hfa : noneAt (putSymO sy ⟨startT laid P.globals.size, k⟩) a = true)
    {B base : Nat} {C : Array Value} {e : Nat} {q : Nat × Nat} (hO : w.heap[B]? = some (.cells C e q)) (hM : symRhoO (startRho tot P.globals.size) sy js b = some M) (hcs : ∀ i, i < M.base → ∃ V, C[base + i]? = some V ∧ Rel (symRhoO (startRho tot P.globals.size) sy js) v V) (hne : ∀ g o, g < P.globals.size → laid.lookup g = some o → g ≠ B)
    (hr : RelL ((symRhoO (startRho tot P.globals.size) sy js).add a ⟨B, base, C.size⟩) args A)
    (good : ∀ CS0 m, Reach P (Base.at w (startRho tot P.globals.size)) f CS0 m (stG P laid f args sy a v b k) → Ends P (Base.at w (startRho tot P.globals.size)) f CS0 isTrue m) (hb : ∃ c, bodyOf P f = some c) :
    Calls P f ⟨A⟩ w fun e w' => e = .returned (.bool true) ∧ Grew w w' := by
  obtain ⟨c, hb⟩ := hb
  have h0 := start_sim (laid := laid) (tot := tot) h64 hw.1 (fun g o hg hl ρ => hw.2 g o hg hl _ ρ)
  have hs : Sim (Base.at w (startRho tot P.globals.size)) (startRho tot P.globals.size) ⟨startT laid P.globals.size, k⟩ w := ⟨h0.os, h0.out, h0.size, h0.old, h0.sub, h0.obj, h0.inj⟩
  have hlive : ∀ b L o, startRho tot P.globals.size b = some L → (Heap.mk (startT laid P.globals.size) k).get b = some o → o.live = true → L.B ≠ B := by
    intro b L o e1 g1 l1
    obtain ⟨g, hg, rfl, rfl⟩ := startRho_some e1
    have := startT_at (laid := laid) h64 hg
    have g1 : (startT laid P.globals.size).get (gkey g) = some o := g1
    rw [this] at g1
    cases hx : laid.lookup g with
    | none => rw [hx] at g1; cases g1; cases l1
    | some y => exact hne g y hg hx
  obtain ⟨hs2, hsub⟩ := symO_sim hz hs hfree hj
  have hlive2 := symO_live hz hs hfree hj hlive
  have hs3 := hs2.addRowG (noneAt_is hfa) hM hO hcs hlive2
  have hsub3 : Sub (startRho tot P.globals.size) ((symRhoO (startRho tot P.globals.size) sy js).add a ⟨B, base, C.size⟩) := hsub.trans (Rho.sub_add (hs2.none_of_get (noneAt_is hfa)))
  intro CS
  have h1 := enter_reach (P := P) (w0 := Base.at w (startRho tot P.globals.size)) (f0 := f) (CS0 := CS) (dfr := .normal) trivial hs3 (Resv.nil _ _) ((start_glob h64).mono hsub3) .nil hr hb rfl
  have hst : stG P laid f args sy a v b k = enter P f args .normal [] ((putSymO sy ⟨startT laid P.globals.size, k⟩).put a (.rowG v b)) c := by unfold stG; rw [hb]
  obtain ⟨ρ', fr, w', v, V, h', hsteps, hfn, hl, hv, hs', hg', hp⟩ := good CS _ (by rw [hst]; exact h1)
  refine ⟨.returned V, w', fr, ⟨?_, Grew.of_sim hs'.std⟩, hsteps, hfn, hl⟩
  rw [isTrue_rel hv hp]
end
end Go.VM
namespace Go.VM
/-! slices.Index over many bools -/
structure IndexAt (P : Program) (w0 : Base) (f : Nat) : Prop where
  at_ : ∀ (b off n c : Nat) (zs : List Bool) (x : Bool) (w : World), w0.w.heap.size ≤ w.heap.size → n ≤ zs.length → n ≤ 9223372036854775807 → (∀ j, j < zs.length → w.cell? ⟨b, off + j, none⟩ = some (.bool zs[j]!)) →
    Calls P f #[.slice (some ⟨b, off, none⟩) n c, .bool x] w fun e w' => e = .returned (.int .i64 (Lib.idxBy (fun x y => x == y) (zs.take n) x)) ∧ w' = w
/-- the first bit that is so, from i on -/
def idxGo (x : Bool) : Nat → Nat → Nat → Option Nat
  | 0, _, _ => none
  | n + 1, i, c => cond (Bool.xor (bitAt c 0) x) (idxGo x n (Nat.succ i) (Nat.shiftRight c 1)) (some i)
noncomputable def idxRes (o : Option Nat) (h : Heap) : Option (AV × Heap) := match o with
  | some i => forceN i fun i => some (.int .i64 (Int.ofNat i), h)
  | none => none
noncomputable def indexIn (x : Bool) (len : Nat) (h : Heap) (o : Option AObj) : Option (AV × Heap) := match o with
  | some (.bits _ n c) => cond (and (Nat.ble len n) (Nat.ble len 1000000)) (idxRes (idxGo x len 0 c) h) none
  | _ => none
noncomputable def indexBits (args : List AV) (h : Heap) : Option (AV × Heap) := match args with
  | [.slice b 0 len (.is _), .bool x] => indexIn x len h (h.get b)
  | _ => none
def boolsOf : Nat → Nat → List Bool
  | 0, _ => []
  | n + 1, c => bitAt c 0 :: boolsOf n (Nat.shiftRight c 1)
theorem boolsOf_len : ∀ n c : Nat, (boolsOf n c).length = n
  | 0, _ => rfl
  | n + 1, c => by simp [boolsOf, boolsOf_len n]
theorem boolsOf_get : ∀ (n c i : Nat), i < n → (boolsOf n c)[i]? = some (bitAt c i)
  | 0, _, _, h => absurd h (Nat.not_lt_zero _)
  | n + 1, c, 0, _ => rfl
  | n + 1, c, i + 1, h => by
    show (boolsOf n (Nat.shiftRight c 1))[i]? = _
    rw [boolsOf_get n _ i (by omega), bitAt_succ]
theorem boolsOf_take : ∀ (n m c : Nat), m ≤ n → (boolsOf n c).take m = boolsOf m c
  | n, 0, c, _ => by simp [boolsOf]
  | 0, m + 1, c, h => absurd h (Nat.not_succ_le_zero _)
  | n + 1, m + 1, c, h => by
    show bitAt c 0 :: (boolsOf n (Nat.shiftRight c 1)).take m = bitAt c 0 :: boolsOf m (Nat.shiftRight c 1)
    rw [boolsOf_take n m _ (by omega)]
theorem idxGo_by (x : Bool) : ∀ (n i c k : Nat), idxGo x n i c = some k → Lib.idxByFrom (fun x y => x == y) x (boolsOf n c) i = (k : Int)
  | 0, _, _, _, h => by cases h
  | n + 1, i, c, k, h => by
    have h : cond (Bool.xor (bitAt c 0) x) (idxGo x n (Nat.succ i) (Nat.shiftRight c 1)) (some i) = some k := h
    show (if (x == bitAt c 0) = true then (i : Int) else Lib.idxByFrom (fun x y => x == y) x (boolsOf n (Nat.shiftRight c 1)) (i + 1)) = _
    cases hb : Bool.xor (bitAt c 0) x with
    | true =>
      rw [hb] at h
      have hne : (x == bitAt c 0) = false := by revert hb; cases bitAt c 0 <;> cases x <;> simp
      rw [hne, if_neg (by simp)]
      exact idxGo_by x n (i + 1) _ k h
    | false =>
      rw [hb] at h
      have h : some i = some k := h
      injection h with h; subst h
      have he : (x == bitAt c 0) = true := by revert hb; cases bitAt c 0 <;> cases x <;> simp
      rw [he, if_pos rfl]
theorem indexBits_ok {P : Program} {w0 : Base} {f : Nat} (hc : IndexAt P w0 f) : PrimOk P w0 f indexBits := by
  intro ρ h w args A v h' hs hr he
  unfold indexBits at he
  split at he
  · rename_i b len cp x
    cases hr with
    | cons _ V _ R hv hr =>
    cases hr with
    | cons _ X _ R hx hr =>
    cases hr
    cases hv with
    | sliceIs _ _ _ _ L hb =>
    cases hx
    unfold indexIn at he
    split at he
    · rename_i e n c hg
      cases hle : and (Nat.ble len n) (Nat.ble len 1000000) with
      | false => rw [hle] at he; cases he
      | true =>
        rw [hle, cond_true] at he
        simp only [Bool.and_eq_true] at hle
        have hmax := Nat.le_of_ble_eq_true hle.2
        have hle := Nat.le_of_ble_eq_true hle.1
        unfold idxRes at he
        split at he
        · rename_i i hi
          rw [forceN_eq] at he
          injection he with he; injection he with h1 h2; subst h1; subst h2
          obtain ⟨o, ho, hlt, hobj⟩ := hs.obj b L hb
          rw [hg] at ho; cases ho
          obtain ⟨_, C, q, hO, hsz, _, ⟨_, hcr⟩, hbase, _⟩ := hobj
          obtain ⟨hb0, htot⟩ := hbase rfl
          rw [hb0] at hcr
          have hcell : ∀ j, j < (boolsOf len c).length → w.cell? ⟨L.B, 0 + j, none⟩ = some (.bool (boolsOf len c)[j]!) := by
            intro j hj
            rw [boolsOf_len] at hj
            obtain ⟨V, hV, hrel⟩ := RelL.get? j hcr (bitsOf_get n c j (by omega))
            cases hrel
            rw [List.drop_zero, List.getElem?_take, if_pos (by rw [bitsOf_len]; omega), Array.getElem?_toList] at hV
            have : (boolsOf len c)[j]! = bitAt c j := by
              rw [List.getElem!_eq_getElem?_getD, boolsOf_get len c j hj]; rfl
            rw [this, Nat.zero_add]
            simp [World.cell?, hO, hV]
          have hcall := hc.at_ L.B 0 len cp (boolsOf len c) x w hs.size (by rw [boolsOf_len]; exact Nat.le_refl _) (by omega) hcell
          have harr : (⟨[.slice (some ⟨L.B, L.base + 0, none⟩) len cp, .bool x]⟩ : Array Value) = #[.slice (some ⟨L.B, 0, none⟩) len cp, .bool x] := by rw [hb0]
          rw [harr]
          refine hcall.mono ?_
          rintro e w' ⟨rfl, rfl⟩
          refine ⟨ρ, _, rfl, Sub.refl _, Kept.refl _ _, ?_, hs⟩
          have hx : Lib.idxBy (fun x y => x == y) ((boolsOf len c).take len) x = (i : Int) := by
            rw [boolsOf_take len len c (Nat.le_refl _)]
            exact idxGo_by x len 0 c i hi
          rw [hx]
          exact .int .i64 _
        · cases he
    · cases he
  · cases he
end Go.VM
