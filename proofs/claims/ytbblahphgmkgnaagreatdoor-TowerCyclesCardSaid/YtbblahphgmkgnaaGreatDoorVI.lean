/- A map's keys, sorted, and a text many times over, by the library's contracts. No conditions: a library text of the proof. -/
import Derived.Test.YtbblahphgmkgnaaGreatDoorVH
import Derived.Sort.KeysCollected
import Derived.Lib.SlKeysI
import Derived.Sort.Walk0
import Derived.Lib.Repeat
namespace Go.VM
open Go.RowKit
def insK (l c : Nat) : List (Nat × Nat) → List (Nat × Nat)
 | [] => [(l, c)]
 | p :: r => cond (strLess (l + p.1 + 1) l c p.1 p.2) ((l, c) :: p :: r) (p :: insK l c r)
def strOfKey : AV → Option (Nat × Nat)
 | .str l c => some (l, c)
 | _ => none
def putStrK (x : Option (Nat × Nat)) (ks : List (Nat × Nat)) : Option (List (Nat × Nat)) := match x with
 | some p => cond (Nat.ble p.1 1000000) (some (insK p.1 p.2 ks)) none
 | none => none
def sortK : List (AV × AV × Nat) → Option (List (Nat × Nat))
 | [] => some []
 | e :: r => (sortK r).bind (putStrK (strOfKey e.1))
def ascK : List (Nat × Nat) → Bool
 | [] => true
 | [_] => true
 | p :: q :: r => cond (strLess (p.1 + q.1 + 1) p.1 p.2 q.1 q.2) (ascK (q :: r)) false
def bornsOf : List (AV × AV × Nat) → List Nat
 | [] => []
 | e :: r => e.2.2 :: bornsOf r
def allLt (n : Nat) : List Nat → Bool
 | [] => true
 | i :: r => cond (Nat.blt i n) (allLt n r) false
def bornOk (clock : Nat) (es : List (AV × AV × Nat)) : Bool := cond (allLt clock (bornsOf es)) (nodupN (bornsOf es)) false
def rowStr : List (Nat × Nat) → List AV
 | [] => []
 | p :: r => .str p.1 p.2 :: rowStr r
noncomputable def newAt (t : RT AObj) (n : Key) (o : AObj) (k : Key → AV) : Option (AV × Heap) := match t.get n with
 | none => some (k n, .mk (t.set o n) (incr n))
 | some _ => none
noncomputable def newO (h : Heap) (o : AObj) (k : Key → AV) : Option (AV × Heap) := newAt h.t h.next o k
noncomputable def rowOf (e : Nat) (cs : List AV) (h : Heap) : Option (AV × Heap) := match cs with
 | [] => some (.nilSlice, h)
 | c :: r => forceN (len (c :: r)) (fun n => newO h (.cells e (c :: r) true 0) (fun b => .slice b 0 n (.more 1)))
noncomputable def sortedIn (e clock : Nat) (es : List (AV × AV × Nat)) (h : Heap) : Option (AV × Heap) := match sortK es with
 | some ks => cond (cond (ascK ks) (cond (bornOk clock es) (Nat.ble (len es) 100000) false) false) (rowOf e (rowStr ks) h) none
 | none => none
def zeroE : List (AV × AV) → List (AV × AV × Nat)
 | [] => []
 | e :: r => (e.1, e.2, 0) :: zeroE r
noncomputable def sortedInL (e : Nat) (es : List (AV × AV)) (h : Heap) : Option (AV × Heap) := match sortK (zeroE es) with
 | some ks => cond (cond (ascK ks) (Nat.ble (len es) 100000) false) (rowOf e (rowStr ks) h) none
 | none => none
noncomputable def sortedMap (f : Nat → Nat → List (AV × AV × Nat) → Heap → Option (AV × Heap)) (fl : Nat → List (AV × AV) → Heap → Option (AV × Heap)) (e : Nat) (m : AV) (h : Heap) : Option (AV × Heap) := match m with
 | .map b => (match h.get b with
  | some (.map es clock) => f e clock es h
  | some (.lmap es) => fl e es h
  | some (.smap es _) => fl e (stripK es) h
  | _ => none)
 | .nilMap => some (.nilSlice, h)
 | _ => none
noncomputable def sortedBox (f : Nat → Nat → List (AV × AV × Nat) → Heap → Option (AV × Heap)) (fl : Nat → List (AV × AV) → Heap → Option (AV × Heap)) (e : Nat) (o : Option AObj) (h : Heap) : Option (AV × Heap) := match o with
 | some (.cells _ [m] false _) => sortedMap f fl e m h
 | _ => none
noncomputable def sortedArgs (f : Nat → Nat → List (AV × AV × Nat) → Heap → Option (AV × Heap)) (fl : Nat → List (AV × AV) → Heap → Option (AV × Heap)) (it : Nat → Bool) (e : Nat) (args : List AV) (h : Heap) : Option (AV × Heap) := match args with
 | [.func (.func g) [] [.ptr bm 0]] => cond (it g) (sortedBox f fl e (h.get bm) h) none
 | _ => none
noncomputable def sortedStr (it : Nat → Bool) (e : Nat) : List AV → Heap → Option (AV × Heap) := sortedArgs sortedIn sortedInL it e
def keyStr : Value → List UInt8
 | .string s => s.data.toList
 | _ => []
structure SortedAt (P : Program) (w0 : Base) (f e : Nat) (it : Nat → Bool) : Prop where
 some_ : ∀ g, it g = true → ∀ (w : World) (Bm b clock : Nat) (es : Array MapEntry), w0.w.heap.size ≤ w.heap.size → Bm < w.heap.size → w.cell? ⟨Bm, 0, none⟩ = some (.map (some b)) → w.heap[b]? = some (.map es clock) → MapKept.Stamped es clock → (∀ x ∈ es.toList, ∃ s, x.key = .string s ∧ s.size ≤ 1000000) → es.size ≤ 100000 →
  Calls P f #[.func (.func g) #[] #[.pointer (some ⟨Bm, 0, none⟩)]] w fun en w' => ∃ (v : Value) (ss : List (List UInt8)), en = .returned v ∧ ss.Perm (es.toList.map fun x => keyStr x.key) ∧ w'.ownsRow w.heap.size e 1 v ss.length ((ss.mergeSort leB).map Go.Proofs.encStr) ∧ (v = .slice none 0 0 ↔ ss = []) ∧ Below w.heap.size w w'
 nil_ : ∀ g, it g = true → ∀ (w : World) (Bm : Nat), w0.w.heap.size ≤ w.heap.size → Bm < w.heap.size → w.cell? ⟨Bm, 0, none⟩ = some (.map none) →
  Calls P f #[.func (.func g) #[] #[.pointer (some ⟨Bm, 0, none⟩)]] w fun en w' => en = .returned (.slice none 0 0) ∧ Below w.heap.size w w'
theorem grew_of_below {w w' : World} (h : Below w.heap.size w w') : Grew w w' := ⟨h.os, h.output, h.size, h.block⟩
def pairOf (e : AV × AV × Nat) : Nat × Nat := (strOfKey e.1).getD (0, 0)
theorem insK_perm (l c : Nat) : ∀ ks : List (Nat × Nat), (insK l c ks).Perm ((l, c) :: ks)
 | [] => .refl _
 | p :: r => by
  unfold insK
  cases strLess (l + p.1 + 1) l c p.1 p.2 with
  | true => exact .refl _
  | false => exact ((insK_perm l c r).cons p).trans (.swap _ _ _)
theorem sortK_some : ∀ {es : List (AV × AV × Nat)} {ks : List (Nat × Nat)}, sortK es = some ks → ks.Perm (es.map pairOf) ∧ ∀ e ∈ es, ∃ l c, e.1 = .str l c ∧ l ≤ 1000000
 | [], ks, h => by
  have h : some [] = some ks := h
  injection h with h; subst h
  exact ⟨.refl _, fun e he => by cases he⟩
 | e :: r, ks, h => by
  have h : (sortK r).bind (putStrK (strOfKey e.1)) = some ks := h
  cases hr : sortK r with
  | none => rw [hr] at h; cases h
  | some k1 =>
   rw [hr] at h
   obtain ⟨ih1, ih2⟩ := sortK_some hr
   have h : putStrK (strOfKey e.1) k1 = some ks := h
   unfold putStrK at h
   cases hk : strOfKey e.1 with
   | none => rw [hk] at h; cases h
   | some p =>
    rw [hk] at h
    have h : cond (Nat.ble p.1 1000000) (some (insK p.1 p.2 k1)) none = some ks := h
    cases hb : Nat.ble p.1 1000000 with
    | false => rw [hb] at h; cases h
    | true =>
     rw [hb] at h
     have h : some (insK p.1 p.2 k1) = some ks := h
     injection h with h; subst h
     have hp : pairOf e = p := by unfold pairOf; rw [hk]; rfl
     refine ⟨?_, fun x hx => ?_⟩
     ·rw [List.map_cons, hp]; exact (insK_perm p.1 p.2 k1).trans (ih1.cons p)
     ·cases hx with
      | head =>
       obtain ⟨k, v, b⟩ := e
       have hk : strOfKey k = some p := hk
       cases k with
       | str l c =>
        have hk : some (l, c) = some p := hk
        injection hk with hk; subst hk
        exact ⟨l, c, rfl, Nat.le_of_ble_eq_true hb⟩
       | _ => cases hk
      | tail _ hx => exact ih2 x hx
theorem bornsOf_eq : ∀ es : List (AV × AV × Nat), bornsOf es = es.map fun e => e.2.2
 | [] => rfl
 | e :: r => by show e.2.2 :: bornsOf r = _; rw [bornsOf_eq r]; rfl
theorem allLt_spec {n : Nat} : ∀ {l : List Nat}, allLt n l = true → ∀ i ∈ l, i < n
 | [], _, i, hi => by cases hi
 | j :: r, h, i, hi => by
  unfold allLt at h
  obtain ⟨h1, h2⟩ := condB h
  cases hi with
  | head => exact blt_lt h1
  | tail _ hi => exact allLt_spec h2 i hi
theorem ERel.borns {ρ : Rho} : ∀ {es : List (AV × AV × Nat)} {E : List MapEntry}, ERel ρ es E → E.map (·.born) = es.map fun e => e.2.2
 | _, _, .nil => rfl
 | _, _, .cons _ _ _ _ _ _ _ _ _ hr => by simp [ERel.borns hr]
theorem ERel.strs {ρ : Rho} : ∀ {es : List (AV × AV × Nat)} {E : List MapEntry}, ERel ρ es E → (∀ e ∈ es, ∃ l c, e.1 = .str l c ∧ l ≤ 1000000) →
  E.map (·.key) = (es.map pairOf).map (fun p => Value.string (strOf p.1 p.2)) ∧ ∀ e ∈ es, (pairOf e).2 < 256 ^ (pairOf e).1 ∧ (pairOf e).1 ≤ 1000000
 | _, _, .nil, _ => ⟨rfl, fun e he => by cases he⟩
 | _, _, .cons k v K V c r R hk hv hr, h => by
  obtain ⟨l, d, e1, hl⟩ := h _ (List.mem_cons_self ..)
  have e1 : k = .str l d := e1
  subst e1
  cases hk with
  | str _ _ hd =>
   obtain ⟨i1, i2⟩ := ERel.strs hr fun e he => h e (List.mem_cons_of_mem _ he)
   refine ⟨by simp only [List.map_cons, i1]; rfl, fun e he => ?_⟩
   cases he with
   | head => exact ⟨hd, hl⟩
   | tail _ he => exact i2 e he
def ltS (p q : Nat × Nat) : Prop := strBytes p.1 p.2 < strBytes q.1 q.2
theorem strLess_lt {l c m d : Nat} : strLess (l + m + 1) l c m d = true ↔ strBytes l c < strBytes m d := by
 rw [strLess_eq _ _ _ _ _ (by omega), Go.Proofs.bytesLess_eq, decide_eq_true_iff]
theorem ascK_spec : ∀ {ks : List (Nat × Nat)}, ascK ks = true → ks.Pairwise ltS
 | [], _ => .nil
 | [p], _ => List.pairwise_singleton _ _
 | p :: q :: r, h => by
  unfold ascK at h
  obtain ⟨h1, h2⟩ := condB h
  have ih := ascK_spec h2
  have hpq : ltS p q := strLess_lt.1 h1
  refine List.pairwise_cons.2 ⟨fun x hx => ?_, ih⟩
  cases hx with
  | head => exact hpq
  | tail _ hx => exact List.lt_trans hpq ((List.pairwise_cons.1 ih).1 x hx)
theorem rowStr_eq : ∀ ks : List (Nat × Nat), rowStr ks = ks.map fun p => AV.str p.1 p.2
 | [] => rfl
 | p :: r => by show AV.str p.1 p.2 :: rowStr r = _; rw [rowStr_eq r]; rfl
theorem plain_rowStr : ∀ ks : List (Nat × Nat), allPlain (rowStr ks) = true
 | [] => rfl
 | _ :: r => plain_rowStr r
theorem relL_strs {ρ : Rho} : ∀ {ks : List (Nat × Nat)}, (∀ p ∈ ks, p.2 < 256 ^ p.1) → RelL ρ (ks.map fun p => AV.str p.1 p.2) (ks.map fun p => Value.string (strOf p.1 p.2))
 | [], _ => .nil
 | p :: _, h => .cons _ _ _ _ (.str _ _ (h p (List.mem_cons_self ..))) (relL_strs fun q hq => h q (List.mem_cons_of_mem _ hq))
theorem rowOf_ok {w0 : Base} {w w' : World} {ρ : Rho} {h : Heap} {e : Nat} {cs : List AV} {V : Value} {vs : List Value} {v : AV} {h' : Heap} (hs : Sim w0 ρ h w) (hp : allPlain cs = true) (hrel : ∀ ρ, RelL ρ cs vs) (hown : w'.ownsRow w.heap.size e 1 V cs.length vs) (hnil : V = .slice none 0 0 ↔ cs = []) (hb : Below w.heap.size w w') (he : rowOf e cs h = some (v, h')) :
  ∃ ρ', Sub ρ ρ' ∧ Kept ρ h ρ' h' ∧ Rel ρ' v V ∧ Sim w0 ρ' h' w' := by
 cases cs with
 | nil =>
  have he : some (AV.nilSlice, h) = some (v, h') := he
  injection he with he; injection he with h1 h2; subst h1; subst h2
  rw [hnil.2 rfl]
  exact ⟨ρ, Sub.refl _, Kept.refl _ _, .nilSlice, hs.grew (grew_of_below hb)⟩
 | cons c r =>
  obtain ⟨hlen, hcase⟩ := hown
  rcases hcase with ⟨_, h0⟩ | ⟨g, cap, cur, rfl, hg, hO, hn, _, hsz, htk⟩
  ·simp at h0
  have he : forceN (len (c :: r)) (fun n => newO h (.cells e (c :: r) true 0) (fun b => .slice b 0 n (.more 1))) = some (v, h') := he
  rw [forceN_eq, len_eq] at he
  obtain ⟨t, nk⟩ := h
  have he : newAt t nk (.cells e (c :: r) true 0) (fun b => .slice b 0 (c :: r).length (.more 1)) = some (v, h') := he
  unfold newAt at he
  cases hk : t.get nk with
  | some _ => rw [hk] at he; cases he
  | none =>
   rw [hk] at he
   have he : some (AV.slice nk 0 (c :: r).length (.more 1), Heap.mk (t.set (.cells e (c :: r) true 0) nk) (incr nk)) = some (v, h') := he
   injection he with he; injection he with h1 h2; subst h1; subst h2
   let L : Loc := ⟨g, 0, cur.size⟩
   let ρ1 : Rho := fun k => if nk = k then some L else none
   let o : AObj := .cells e (c :: r) true 0
   let h1 : Heap := .mk (RT.nil.set o nk) nk
   have hglt : g < w'.heap.size := (Array.getElem?_eq_some_iff.1 hO).1
   have hobj : ObjRel (fun k => k < w.heap.size) ρ1 L w'.heap[L.B]? o := by
    refine ⟨Nat.not_lt.2 hg, cur, (0, 0), ?_, rfl, fun j _ hj => absurd hj (Nat.not_lt_zero _), ⟨?_, ?_⟩, (fun h => by cases h), (fun _ h => by cases h)⟩
    ·show w'.heap[g]? = _; rw [hO]
    ·show 0 + (c :: r).length ≤ cur.size; omega
    ·show RelL ρ1 (c :: r) ((cur.toList.drop 0).take (c :: r).length)
     rw [List.drop_zero]
     have : cur.toList.take (c :: r).length = vs := by rw [← htk, Nat.mul_one]
     rw [this]; exact hrel ρ1
   have hs1 : Sim (Base.std w) ρ1 h1 w' := by
    refine ⟨hb.os, hb.output, hb.size, hb.block, (fun _ _ e => nomatch e), fun b L' e' => ?_, fun b b' L1 L2 o1 o2 e1 e2 _ _ _ _ _ => ?_⟩
    ·by_cases hbk : nk = b
     ·subst hbk
      have e' : some L = some L' := by simpa [ρ1] using e'
      injection e' with e'; subst e'
      exact ⟨o, RT.get_set_same _ _ _, hglt, hobj⟩
     ·simp [ρ1, hbk] at e'
    ·by_cases hb1 : nk = b
     ·by_cases hb2 : nk = b'
      ·exact hb1.symm.trans hb2
      ·simp [ρ1, hb2] at e2
     ·simp [ρ1, hb1] at e1
   have hin : objIn (inKeys [(nk, o)]) o = true := by
    show listIn (avIn _ 20) (c :: r) = true
    have : ∀ l : List AV, allPlain l = true → listIn (avIn (inKeys [(nk, o)]) 20) l = true := by
     intro l
     induction l with
     | nil => intro _; rfl
     | cons a l ih =>
      intro hl
      obtain ⟨ha, hl⟩ := condB (show cond a.plain (allPlain l) false = true from hl)
      have : avIn (inKeys [(nk, o)]) 20 a = true := by cases a <;> first | rfl | cases ha
      show cond (avIn _ 20 a) (listIn _ l) false = true
      rw [this]; exact ih hl
    exact this _ hp
   have hf := hs.frame (objs := [(nk, o)]) hs1 (fun p hp' => by
     obtain rfl : p = (nk, o) := by simpa using hp'
     exact RT.get_set_same _ _ _) (fun p hp' => by
     obtain rfl : p = (nk, o) := by simpa using hp'
     exact hk) (fun p hp' => by
     obtain rfl : p = (nk, o) := by simpa using hp'
     exact hin)
   obtain ⟨s1, s2, s3⟩ := hf
   have hnew : newRho [(nk, o)] ρ ρ1 nk = some L := by
    rw [newRho_in (inKeys_of (List.mem_cons_self ..))]; simp [ρ1]
   refine ⟨_, s2, fun k x gx ex => s3 k x gx ex, .sliceMore nk 0 _ cap 1 L hnew hn ?_, ⟨s1.os, s1.out, s1.size, s1.old, s1.sub, s1.obj, s1.inj⟩⟩
   show 0 + 0 + cap * 1 = cur.size
   omega
theorem pairKeys {es : List (AV × AV × Nat)} {ks : List (Nat × Nat)} (hperm : ks.Perm (es.map pairOf)) {E : List MapEntry} (hE : E.map (·.key) = (es.map pairOf).map (fun p => Value.string (strOf p.1 p.2))) :
  (E.map fun x => keyStr x.key).Perm (ks.map fun p => strBytes p.1 p.2) := by
 have e1 : (E.map fun x => keyStr x.key) = (es.map pairOf).map fun p => strBytes p.1 p.2 := by
  have : (E.map fun x => keyStr x.key) = (E.map (·.key)).map keyStr := by rw [List.map_map]; rfl
  rw [this, hE, List.map_map]; rfl
 rw [e1]
 exact (hperm.map _).symm
theorem sorted_asc {ks : List (Nat × Nat)} (h : ks.Pairwise ltS) : (ks.map fun p => strBytes p.1 p.2).mergeSort leB = ks.map fun p => strBytes p.1 p.2 := by
 refine List.mergeSort_of_pairwise ?_
 rw [List.pairwise_map]
 exact h.imp fun hlt => by simpa [leB] using List.le_of_lt hlt
theorem sorted_core {P : Program} {w0 : Base} {f e : Nat} {it : Nat → Bool} (hc : SortedAt P w0 f e it) {ρ : Rho} {h h' : Heap} {w : World} {v : AV} (hs : Sim w0 ρ h w) {g : Nat} (hg : it g = true) {Lm Lb : Loc} (hlt : Lm.B < w.heap.size) (hcell : w.cell? ⟨Lm.B, 0, none⟩ = some (.map (some Lb.B))) {E : Array MapEntry} {clock : Nat} (hOb : w.heap[Lb.B]? = some (.map E clock)) {es : List (AV × AV × Nat)} (hE : ERel ρ es E.toList) (hstp : Stamp E.toList clock)
  {ks : List (Nat × Nat)} (hperm : ks.Perm (es.map pairOf)) (hstr : ∀ e ∈ es, ∃ l c, e.1 = .str l c ∧ l ≤ 1000000) (hasc : ascK ks = true) (hlen : es.length ≤ 100000) (he : rowOf e (rowStr ks) h = some (v, h')) :
  Calls P f #[.func (.func g) #[] #[.pointer (some ⟨Lm.B, 0, none⟩)]] w fun e w' => ∃ ρ' V, e = .returned V ∧ Sub ρ ρ' ∧ Kept ρ h ρ' h' ∧ Rel ρ' v V ∧ Sim w0 ρ' h' w' := by
 obtain ⟨hkeys, hbnd⟩ := hE.strs hstr
 have hEl : E.toList.length = es.length := by
  have := congrArg List.length hE.borns
  simpa using this
 have hpw := ascK_spec hasc
 have hksb : ∀ p ∈ ks, p.2 < 256 ^ p.1 ∧ p.1 ≤ 1000000 := fun p hp => by
  have := hperm.mem_iff.1 hp
  obtain ⟨x, hx, rfl⟩ := List.mem_map.1 this
  exact hbnd x hx
 have hst : MapKept.Stamped E clock := by
  refine ⟨hstp.1, hstp.2, ?_⟩
  ·rw [hkeys]
   have hnd : ((ks.map fun p => Value.string (strOf p.1 p.2))).Nodup := by
    show List.Pairwise _ _
    rw [List.pairwise_map]
    refine hpw.imp fun {p q} hlt heq => ?_
    have : strOf p.1 p.2 = strOf q.1 q.2 := by injection heq
    have : strBytes p.1 p.2 = strBytes q.1 q.2 := congrArg (fun s : ByteArray => s.data.toList) this
    have hlt : strBytes p.1 p.2 < strBytes q.1 q.2 := hlt
    rw [this] at hlt
    exact List.lt_irrefl _ hlt
   exact ((hperm.map _).nodup_iff).1 hnd
 have hkeyS : ∀ x ∈ E.toList, ∃ s, x.key = .string s ∧ s.size ≤ 1000000 := fun x hx => by
  have h1 : x.key ∈ E.toList.map (·.key) := List.mem_map.2 ⟨x, hx, rfl⟩
  rw [hkeys] at h1
  obtain ⟨p, hp, e2⟩ := List.mem_map.1 h1
  obtain ⟨y, hy, rfl⟩ := List.mem_map.1 hp
  exact ⟨_, e2.symm, by rw [strOf_size]; exact (hbnd y hy).2⟩
 have hcall := hc.some_ g hg w Lm.B Lb.B clock E hs.size hlt hcell hOb hst hkeyS (by rw [← Array.length_toList, hEl]; exact hlen)
 refine hcall.mono ?_
 rintro en w' ⟨V, ss, rfl, hss, hown, hnil, hbel⟩
 have hss2 := hss.trans (pairKeys hperm hkeys)
 have hms : ss.mergeSort leB = ks.map fun p => strBytes p.1 p.2 := (mergeSort_of_perm hss2).trans (sorted_asc hpw)
 have hl1 : ss.length = (rowStr ks).length := by rw [rowStr_eq, List.length_map]; simpa using hss2.length_eq
 have hrow : (ss.mergeSort leB).map Go.Proofs.encStr = ks.map fun p => Value.string (strOf p.1 p.2) := by
  rw [hms, List.map_map]; rfl
 rw [hrow, hl1] at hown
 have hpl : allPlain (rowStr ks) = true := plain_rowStr ks
 obtain ⟨ρ', a1, a2, a3, a4⟩ := rowOf_ok (v := v) (h' := h') hs hpl (fun ρ => by rw [rowStr_eq]; exact relL_strs fun p hp => (hksb p hp).1) hown (by
  rw [hnil]
  constructor
  ·intro h0; subst h0; exact List.eq_nil_of_length_eq_zero hl1.symm
  ·intro h0; rw [h0] at hl1; exact List.eq_nil_of_length_eq_zero hl1) hbel he
 exact ⟨ρ', V, rfl, a1, a2, a3, a4⟩
theorem zeroE_eq : ∀ es : List (AV × AV), zeroE es = es.map fun e => (e.1, e.2, 0)
 | [] => rfl
 | e :: r => by show (e.1, e.2, 0) :: zeroE r = _; rw [zeroE_eq r]; rfl
theorem zeroE_perm {es : List (AV × AV)} {es' : List (AV × AV × Nat)} (hp : (es'.map fun e => (e.1, e.2.1)).Perm es) :
  ((zeroE es).map pairOf).Perm (es'.map pairOf) ∧ ∀ Q : AV → Prop, (∀ e ∈ zeroE es, Q e.1) → ∀ e ∈ es', Q e.1 := by
 rw [zeroE_eq]
 refine ⟨?_, fun Q hQ e he => ?_⟩
 ·have h1 := (hp.map fun e : AV × AV => (strOfKey e.1).getD (0, 0)).symm
  rw [List.map_map] at h1 ⊢
  exact h1
 ·have h1 : (e.1, e.2.1) ∈ es := hp.mem_iff.1 (List.mem_map.2 ⟨e, he, rfl⟩)
  exact hQ (e.1, e.2.1, 0) (List.mem_map.2 ⟨_, h1, rfl⟩)
theorem sortedStr_ok {P : Program} {w0 : Base} {f e : Nat} {it : Nat → Bool} (hc : SortedAt P w0 f e it) : PrimOk P w0 f (sortedStr it e) := by
 intro ρ h w args A v h' hs hr he
 unfold sortedStr sortedArgs at he
 split at he
 ·rename_i g bm
  cases hg : it g with
  | false => rw [hg] at he; cases he
  | true =>
  rw [hg, cond_true] at he
  unfold sortedBox at he
  split at he
  ·rename_i e1 m fz hbm
   cases hr with
   | cons _ F _ R hF hR =>
   cases hR
   cases hF with
   | func _ _ _ A1 B1 ha hb =>
   cases ha
   cases hb with
   | cons _ B2 _ R2 hB hR2 =>
   cases hR2
   cases hB with
   | ptr _ _ Lm hLm =>
   obtain ⟨o, ho, hlt, hobj⟩ := hs.obj bm Lm hLm
   rw [hbm] at ho
   injection ho with ho; subst ho
   obtain ⟨_, C, q, hO, hsz, _, ⟨hcb, hcr⟩, hbase, _⟩ := hobj
   obtain ⟨hb0, htot⟩ := hbase rfl
   have hA : (⟨[.func (.func g) ⟨[]⟩ ⟨[.pointer (some ⟨Lm.B, Lm.base + 0, none⟩)]⟩]⟩ : Array Value) = #[.func (.func g) #[] #[.pointer (some ⟨Lm.B, 0, none⟩)]] := by rw [hb0]
   rw [hA]
   rw [hb0] at hcr
   have hcell : ∀ V, Rel ρ m V → C.toList = [V] → w.cell? ⟨Lm.B, 0, none⟩ = some V := by
    intro V _ hC
    have : C = #[V] := by rw [← Array.toList_inj]; exact hC
    simp [World.cell?, hO, this]
   obtain ⟨V, hC, hV⟩ : ∃ V, C.toList = [V] ∧ Rel ρ m V := by
    have hlen : C.toList.length = 1 := by rw [Array.length_toList, hsz, htot]; rfl
    rw [List.drop_zero, List.take_of_length_le (by rw [hlen]; simp)] at hcr
    generalize C.toList = l at hcr
    cases hcr with
    | cons _ V _ R h1 h2 => cases h2; exact ⟨V, rfl, h1⟩
   have hcell := hcell V hV hC
   unfold sortedMap at he
   split at he
   ·rename_i b
    cases hV with
    | map _ Lb hLb =>
    split at he
    ·rename_i es clock hgb
     obtain ⟨o, ho, hltb, hobj⟩ := hs.obj b Lb hLb
     rw [hgb] at ho
     injection ho with ho; subst ho
     obtain ⟨_, E, hOb, hE⟩ := hobj
     unfold sortedIn at he
     cases hk : sortK es with
     | none => rw [hk] at he; cases he
     | some ks =>
     rw [hk] at he
     have he : cond (cond (ascK ks) (cond (bornOk clock es) (Nat.ble (len es) 100000) false) false) (rowOf e (rowStr ks) h) none = some (v, h') := he
     cases hc2 : cond (ascK ks) (cond (bornOk clock es) (Nat.ble (len es) 100000) false) false with
     | false => rw [hc2] at he; cases he
     | true =>
     rw [hc2, cond_true] at he
     obtain ⟨hasc, hc3⟩ := condB hc2
     obtain ⟨hborn, hlen⟩ := condB hc3
     obtain ⟨hb1, hb2⟩ := condB (show cond (allLt clock (bornsOf es)) (nodupN (bornsOf es)) false = true from hborn)
     have hlen := Nat.le_of_ble_eq_true hlen
     rw [len_eq] at hlen
     obtain ⟨hperm, hstr⟩ := sortK_some hk
     have hst : Stamp E.toList clock := by
      refine ⟨fun x hx => ?_, ?_⟩
      ·have h1 : x.born ∈ E.toList.map (·.born) := List.mem_map.2 ⟨x, hx, rfl⟩
       rw [hE.borns, ← bornsOf_eq] at h1
       exact allLt_spec hb1 _ h1
      ·rw [hE.borns, ← bornsOf_eq]; exact nodupN_spec hb2
     exact sorted_core hc hs hg hlt hcell hOb hE hst hperm hstr hasc hlen he
    ·rename_i es hgb
     obtain ⟨o, ho, hltb, hobj⟩ := hs.obj b Lb hLb
     rw [hgb] at ho
     injection ho with ho; subst ho
     obtain ⟨_, E, clock, hOb, ⟨es', hp, hE⟩, hst⟩ := hobj
     unfold sortedInL at he
     cases hk : sortK (zeroE es) with
     | none => rw [hk] at he; cases he
     | some ks =>
     rw [hk] at he
     have he : cond (cond (ascK ks) (Nat.ble (len es) 100000) false) (rowOf e (rowStr ks) h) none = some (v, h') := he
     cases hc2 : cond (ascK ks) (Nat.ble (len es) 100000) false with
     | false => rw [hc2] at he; cases he
     | true =>
     rw [hc2, cond_true] at he
     obtain ⟨hasc, hlen⟩ := condB hc2
     have hlen := Nat.le_of_ble_eq_true hlen
     rw [len_eq] at hlen
     obtain ⟨hperm, hstr⟩ := sortK_some hk
     obtain ⟨hz1, hz2⟩ := zeroE_perm (es' := es') hp
     exact sorted_core hc hs hg hlt hcell hOb hE hst (hperm.trans hz1) (hz2 (fun k => ∃ l c, k = .str l c ∧ l ≤ 1000000) hstr) hasc (by have := hp.length_eq; rw [List.length_map] at this; omega) he
    ·rename_i es0 ck hgb
     obtain ⟨hltb, E, clock, es', hOb, hp, hE, hst⟩ := smap_obj hs hLb hgb
     generalize stripK es0 = es at hp he
     unfold sortedInL at he
     cases hk : sortK (zeroE es) with
     | none => rw [hk] at he; cases he
     | some ks =>
     rw [hk] at he
     have he : cond (cond (ascK ks) (Nat.ble (len es) 100000) false) (rowOf e (rowStr ks) h) none = some (v, h') := he
     cases hc2 : cond (ascK ks) (Nat.ble (len es) 100000) false with
     | false => rw [hc2] at he; cases he
     | true =>
     rw [hc2, cond_true] at he
     obtain ⟨hasc, hlen⟩ := condB hc2
     have hlen := Nat.le_of_ble_eq_true hlen
     rw [len_eq] at hlen
     obtain ⟨hperm, hstr⟩ := sortK_some hk
     obtain ⟨hz1, hz2⟩ := zeroE_perm (es' := es') hp
     exact sorted_core hc hs hg hlt hcell hOb hE hst (hperm.trans hz1) (hz2 (fun k => ∃ l c, k = .str l c ∧ l ≤ 1000000) hstr) hasc (by have := hp.length_eq; rw [List.length_map] at this; omega) he
    ·cases he
   ·have he : some (AV.nilSlice, h) = some (v, h') := he
    injection he with he; injection he with h1 h2; subst h1; subst h2
    cases hV
    refine (hc.nil_ g hg w Lm.B hs.size hlt hcell).mono ?_
    rintro en w' ⟨rfl, hbel⟩
    exact ⟨ρ, _, rfl, Sub.refl _, Kept.refl _ _, .nilSlice, hs.grew (grew_of_below hbel)⟩
   ·cases he
  ·cases he
 ·cases he
theorem own_of {P : Program} {k : TypeId} (hk : P.underlying k = some .string) {w : World} {b clock : Nat} {es : Array MapEntry} (hb : w.heap[b]? = some (.map es clock)) (hst : MapKept.Stamped es clock) (hkeys : ∀ x ∈ es.toList, ∃ s, x.key = .string s ∧ s.size ≤ 1000000) (hsz : es.size ≤ 100000) :
  ∃ D0 : DataW Unit, w.ownsMap P k (fun _ => some (.nil, [])) b es.size D0 ∧ Maps.size D0 = es.size ∧ (strKeys D0).Perm (es.toList.map fun x => keyStr x.key) := by
 have hrd : ∀ x ∈ es.toList, WideElems.rd (H := Unit) P k (fun _ => some (.nil, [])) x = some (.string (keyStr x.key), .nil) := fun x hx => by
  obtain ⟨s, hs, hl⟩ := hkeys x hx
  have hle : s.size ≤ maxLen := Nat.le_trans hl (by decide)
  have hkey : Go.keyOf P k (.string s) = some (.string s.data.toList) := WideMaps.keyOf_string_mk hk hle
  simp [WideElems.rd, hs, hkey, keyStr]
 have hF : WideElems.Fit (H := Unit) P k (fun _ => some (.nil, [])) es clock := ⟨Nat.le_trans hsz (by decide), hst, fun x hx => ⟨_, hrd x hx⟩⟩
 refine ⟨_, ⟨es, clock, hb, hF, Nat.le_refl _, rfl⟩, ?_, ?_⟩
 ·show ((es.toList.map (WideElems.rg (H := Unit) P k fun _ => some (.nil, []))).foldr DataW.insert []).length = es.size
  rw [(WideShapes.sorted_perm _).length_eq, List.length_map, Array.length_toList]
 ·show (((es.toList.map (WideElems.rg (H := Unit) P k fun _ => some (.nil, []))).foldr DataW.insert []).map fun p => Go.strOf p.1).Perm _
  refine ((WideShapes.sorted_perm _).map _).trans ?_
  rw [List.map_map]
  refine .of_eq (List.map_congr_left fun x hx => ?_)
  show Go.strOf (WideElems.rg P k _ x).1 = _
  rw [WideElems.rg_of (hrd x hx)]
  rfl
end Go.VM
namespace Go.VM
open Go.RowKit
def insI (n : Int) : List Int → List Int
 | [] => [n]
 | m :: r => cond (intLt n m) (n :: m :: r) (m :: insI n r)
def intOfKey : AV → Option Int
 | .int .i64 n => some n
 | _ => none
def putIntK (x : Option Int) (ks : List Int) : Option (List Int) := match x with
 | some n => cond (inI64 n) (some (insI n ks)) none
 | none => none
def sortI : List (AV × AV × Nat) → Option (List Int)
 | [] => some []
 | e :: r => (sortI r).bind (putIntK (intOfKey e.1))
def ascI : List Int → Bool
 | [] => true
 | [_] => true
 | p :: q :: r => cond (intLt p q) (ascI (q :: r)) false
def rowInt : List Int → List AV
 | [] => []
 | n :: r => .int .i64 n :: rowInt r
noncomputable def sortedInI (e clock : Nat) (es : List (AV × AV × Nat)) (h : Heap) : Option (AV × Heap) := match sortI es with
 | some ks => cond (cond (ascI ks) (cond (bornOk clock es) (Nat.ble (len es) 100000) false) false) (rowOf e (rowInt ks) h) none
 | none => none
noncomputable def sortedInt (it : Nat → Bool) (e : Nat) : List AV → Heap → Option (AV × Heap) := sortedArgs sortedInI (fun _ _ _ => none) it e
def keyInt : Value → Int
 | .int _ n => n
 | _ => 0
structure SortedAtI (P : Program) (w0 : Base) (f e : Nat) (it : Nat → Bool) : Prop where
 some_ : ∀ g, it g = true → ∀ (w : World) (Bm b clock : Nat) (es : Array MapEntry), w0.w.heap.size ≤ w.heap.size → Bm < w.heap.size → w.cell? ⟨Bm, 0, none⟩ = some (.map (some b)) → w.heap[b]? = some (.map es clock) → MapKept.Stamped es clock → (∀ x ∈ es.toList, ∃ n, x.key = .int .i64 n ∧ (Lit.int .i64 n).wf = true) → es.size ≤ 100000 →
  Calls P f #[.func (.func g) #[] #[.pointer (some ⟨Bm, 0, none⟩)]] w fun en w' => ∃ (v : Value) (ss : List Int), en = .returned v ∧ ss.Perm (es.toList.map fun x => keyInt x.key) ∧ w'.ownsRow w.heap.size e 1 v ss.length ((ss.mergeSort leI).map encZ) ∧ (v = .slice none 0 0 ↔ ss = []) ∧ Below w.heap.size w w'
 nil_ : ∀ g, it g = true → ∀ (w : World) (Bm : Nat), w0.w.heap.size ≤ w.heap.size → Bm < w.heap.size → w.cell? ⟨Bm, 0, none⟩ = some (.map none) →
  Calls P f #[.func (.func g) #[] #[.pointer (some ⟨Bm, 0, none⟩)]] w fun en w' => en = .returned (.slice none 0 0) ∧ Below w.heap.size w w'
def numOf (e : AV × AV × Nat) : Int := (intOfKey e.1).getD 0
theorem insI_perm (n : Int) : ∀ ks : List Int, (insI n ks).Perm (n :: ks)
 | [] => .refl _
 | m :: r => by
  unfold insI
  cases intLt n m with
  | true => exact .refl _
  | false => exact ((insI_perm n r).cons m).trans (.swap _ _ _)
theorem sortI_some : ∀ {es : List (AV × AV × Nat)} {ks : List Int}, sortI es = some ks → ks.Perm (es.map numOf) ∧ ∀ e ∈ es, ∃ n, e.1 = .int .i64 n ∧ inI64 n = true
 | [], ks, h => by
  have h : some [] = some ks := h
  injection h with h; subst h
  exact ⟨.refl _, fun e he => by cases he⟩
 | e :: r, ks, h => by
  have h : (sortI r).bind (putIntK (intOfKey e.1)) = some ks := h
  cases hr : sortI r with
  | none => rw [hr] at h; cases h
  | some k1 =>
   rw [hr] at h
   obtain ⟨ih1, ih2⟩ := sortI_some hr
   have h : putIntK (intOfKey e.1) k1 = some ks := h
   unfold putIntK at h
   cases hk : intOfKey e.1 with
   | none => rw [hk] at h; cases h
   | some p =>
    rw [hk] at h
    have h : cond (inI64 p) (some (insI p k1)) none = some ks := h
    cases hb : inI64 p with
    | false => rw [hb] at h; cases h
    | true =>
     rw [hb] at h
     have h : some (insI p k1) = some ks := h
     injection h with h; subst h
     have hp : numOf e = p := by unfold numOf; rw [hk]; rfl
     refine ⟨?_, fun x hx => ?_⟩
     ·rw [List.map_cons, hp]; exact (insI_perm p k1).trans (ih1.cons p)
     ·cases hx with
      | head =>
       obtain ⟨k, v, b⟩ := e
       have hk : intOfKey k = some p := hk
       cases k with
       | int q n =>
        cases q with
        | i64 =>
         have hk : some n = some p := hk
         injection hk with hk; subst hk
         exact ⟨n, rfl, hb⟩
        | _ => cases hk
       | _ => cases hk
      | tail _ hx => exact ih2 x hx
theorem ERel.ints {ρ : Rho} : ∀ {es : List (AV × AV × Nat)} {E : List MapEntry}, ERel ρ es E → (∀ e ∈ es, ∃ n, e.1 = .int .i64 n ∧ inI64 n = true) →
  E.map (·.key) = (es.map numOf).map (Value.int .i64) ∧ ∀ e ∈ es, inI64 (numOf e) = true
 | _, _, .nil, _ => ⟨rfl, fun e he => by cases he⟩
 | _, _, .cons k v K V c r R hk hv hr, h => by
  obtain ⟨n, e1, hl⟩ := h _ (List.mem_cons_self ..)
  have e1 : k = .int .i64 n := e1
  subst e1
  cases hk with
  | int _ _ =>
   obtain ⟨i1, i2⟩ := ERel.ints hr fun e he => h e (List.mem_cons_of_mem _ he)
   refine ⟨by simp only [List.map_cons, i1]; rfl, fun e he => ?_⟩
   cases he with
   | head => exact hl
   | tail _ he => exact i2 e he
theorem ascI_spec : ∀ {ks : List Int}, ascI ks = true → ks.Pairwise (· < ·)
 | [], _ => .nil
 | [p], _ => List.pairwise_singleton _ _
 | p :: q :: r, h => by
  unfold ascI at h
  obtain ⟨h1, h2⟩ := condB h
  have ih := ascI_spec h2
  have hpq : p < q := (intLt_iff _ _).1 h1
  refine List.pairwise_cons.2 ⟨fun x hx => ?_, ih⟩
  cases hx with
  | head => exact hpq
  | tail _ hx => exact Int.lt_trans hpq ((List.pairwise_cons.1 ih).1 x hx)
theorem rowInt_eq : ∀ ks : List Int, rowInt ks = ks.map (AV.int .i64)
 | [] => rfl
 | p :: r => by show AV.int .i64 p :: rowInt r = _; rw [rowInt_eq r]; rfl
theorem plain_rowInt : ∀ ks : List Int, allPlain (rowInt ks) = true
 | [] => rfl
 | _ :: r => plain_rowInt r
theorem relL_ints {ρ : Rho} : ∀ ks : List Int, RelL ρ (ks.map (AV.int .i64)) (ks.map (Value.int .i64))
 | [] => .nil
 | _ :: r => .cons _ _ _ _ (.int _ _) (relL_ints r)
theorem sorted_ascI {ks : List Int} (h : ks.Pairwise (· < ·)) : ks.mergeSort leI = ks := by
 refine List.mergeSort_of_pairwise ?_
 exact h.imp fun hlt => by simpa [leI] using Int.le_of_lt hlt
theorem wf_of_inI64 {n : Int} (h : inI64 n = true) : (Lit.int .i64 n).wf = true := by
 have h1 : IntKind.i64.min = -9223372036854775808 := rfl
 have h2 : IntKind.i64.max = 9223372036854775807 := rfl
 simp only [Lit.wf, h1, h2, Bool.and_eq_true, decide_eq_true_eq]
 cases n with
 | ofNat a =>
  have h : Nat.blt a 9223372036854775808 = true := h
  rw [Nat.blt_eq] at h
  have e : Int.ofNat a = (a : Int) := rfl
  rw [e]; omega
 | negSucc a =>
  have h : Nat.blt a 9223372036854775808 = true := h
  rw [Nat.blt_eq] at h
  rw [Int.negSucc_eq]; omega
theorem sortedInt_ok {P : Program} {w0 : Base} {f e : Nat} {it : Nat → Bool} (hc : SortedAtI P w0 f e it) : PrimOk P w0 f (sortedInt it e) := by
 intro ρ h w args A v h' hs hr he
 unfold sortedInt sortedArgs at he
 split at he
 ·rename_i g bm
  cases hg : it g with
  | false => rw [hg] at he; cases he
  | true =>
  rw [hg, cond_true] at he
  unfold sortedBox at he
  split at he
  ·rename_i e1 m fz hbm
   cases hr with
   | cons _ F _ R hF hR =>
   cases hR
   cases hF with
   | func _ _ _ A1 B1 ha hb =>
   cases ha
   cases hb with
   | cons _ B2 _ R2 hB hR2 =>
   cases hR2
   cases hB with
   | ptr _ _ Lm hLm =>
   obtain ⟨o, ho, hlt, hobj⟩ := hs.obj bm Lm hLm
   rw [hbm] at ho
   injection ho with ho; subst ho
   obtain ⟨_, C, q, hO, hsz, _, ⟨hcb, hcr⟩, hbase, _⟩ := hobj
   obtain ⟨hb0, htot⟩ := hbase rfl
   have hA : (⟨[.func (.func g) ⟨[]⟩ ⟨[.pointer (some ⟨Lm.B, Lm.base + 0, none⟩)]⟩]⟩ : Array Value) = #[.func (.func g) #[] #[.pointer (some ⟨Lm.B, 0, none⟩)]] := by rw [hb0]
   rw [hA]
   rw [hb0] at hcr
   have hcell : ∀ V, Rel ρ m V → C.toList = [V] → w.cell? ⟨Lm.B, 0, none⟩ = some V := by
    intro V _ hC
    have : C = #[V] := by rw [← Array.toList_inj]; exact hC
    simp [World.cell?, hO, this]
   obtain ⟨V, hC, hV⟩ : ∃ V, C.toList = [V] ∧ Rel ρ m V := by
    have hlen : C.toList.length = 1 := by rw [Array.length_toList, hsz, htot]; rfl
    rw [List.drop_zero, List.take_of_length_le (by rw [hlen]; simp)] at hcr
    generalize C.toList = l at hcr
    cases hcr with
    | cons _ V _ R h1 h2 => cases h2; exact ⟨V, rfl, h1⟩
   have hcell := hcell V hV hC
   unfold sortedMap at he
   split at he
   ·rename_i b
    cases hV with
    | map _ Lb hLb =>
    split at he
    ·rename_i es clock hgb
     obtain ⟨o, ho, hltb, hobj⟩ := hs.obj b Lb hLb
     rw [hgb] at ho
     injection ho with ho; subst ho
     obtain ⟨_, E, hOb, hE⟩ := hobj
     unfold sortedInI at he
     cases hk : sortI es with
     | none => rw [hk] at he; cases he
     | some ks =>
     rw [hk] at he
     have he : cond (cond (ascI ks) (cond (bornOk clock es) (Nat.ble (len es) 100000) false) false) (rowOf e (rowInt ks) h) none = some (v, h') := he
     cases hc2 : cond (ascI ks) (cond (bornOk clock es) (Nat.ble (len es) 100000) false) false with
     | false => rw [hc2] at he; cases he
     | true =>
     rw [hc2, cond_true] at he
     obtain ⟨hasc, hc3⟩ := condB hc2
     obtain ⟨hborn, hlen⟩ := condB hc3
     obtain ⟨hb1, hb2⟩ := condB (show cond (allLt clock (bornsOf es)) (nodupN (bornsOf es)) false = true from hborn)
     have hlen := Nat.le_of_ble_eq_true hlen
     rw [len_eq] at hlen
     obtain ⟨hperm, hint⟩ := sortI_some hk
     obtain ⟨hkeys, hbnd⟩ := hE.ints hint
     have hEl : E.toList.length = es.length := by
      have := congrArg List.length hE.borns
      simpa using this
     have hpw := ascI_spec hasc
     have hst : MapKept.Stamped E clock := by
      refine ⟨fun x hx => ?_, ?_, ?_⟩
      ·have h1 : x.born ∈ E.toList.map (·.born) := List.mem_map.2 ⟨x, hx, rfl⟩
       rw [hE.borns, ← bornsOf_eq] at h1
       exact allLt_spec hb1 _ h1
      ·rw [hE.borns, ← bornsOf_eq]; exact nodupN_spec hb2
      ·rw [hkeys]
       have hnd : (ks.map (Value.int .i64)).Nodup := by
        show List.Pairwise _ _
        rw [List.pairwise_map]
        exact hpw.imp fun {p q} hlt heq => by injection heq with _ heq; omega
       exact ((hperm.map _).nodup_iff).1 hnd
     have hkeyS : ∀ x ∈ E.toList, ∃ n, x.key = .int .i64 n ∧ (Lit.int .i64 n).wf = true := fun x hx => by
      have h1 : x.key ∈ E.toList.map (·.key) := List.mem_map.2 ⟨x, hx, rfl⟩
      rw [hkeys] at h1
      obtain ⟨p, hp, e2⟩ := List.mem_map.1 h1
      obtain ⟨y, hy, rfl⟩ := List.mem_map.1 hp
      exact ⟨_, e2.symm, wf_of_inI64 (hbnd y hy)⟩
     have hcall := hc.some_ g hg w Lm.B Lb.B clock E hs.size hlt hcell hOb hst hkeyS (by rw [← Array.length_toList, hEl]; exact hlen)
     refine hcall.mono ?_
     rintro en w' ⟨V, ss, rfl, hss, hown, hnil, hbel⟩
     have hss2 : ss.Perm ks := by
      have e1 : (E.toList.map fun x => keyInt x.key) = es.map numOf := by
       have : (E.toList.map fun x => keyInt x.key) = (E.toList.map (·.key)).map keyInt := by rw [List.map_map]; rfl
       rw [this, hkeys, List.map_map]
       exact (List.map_congr_left fun _ _ => rfl).trans (List.map_id _)
      rw [e1] at hss
      exact hss.trans hperm.symm
     have hms : ss.mergeSort leI = ks := (mergeSort_of_perm_i hss2).trans (sorted_ascI hpw)
     have hl1 : ss.length = (rowInt ks).length := by rw [rowInt_eq, List.length_map]; exact hss2.length_eq
     rw [hms, hl1] at hown
     obtain ⟨ρ', a1, a2, a3, a4⟩ := rowOf_ok (v := v) (h' := h') hs (plain_rowInt ks) (fun ρ => by rw [rowInt_eq]; exact relL_ints ks) hown (by
      rw [hnil]
      constructor
      ·intro h0; subst h0; exact List.eq_nil_of_length_eq_zero hl1.symm
      ·intro h0; rw [h0] at hl1; exact List.eq_nil_of_length_eq_zero hl1) hbel he
     exact ⟨ρ', V, rfl, a1, a2, a3, a4⟩
    ·cases he
    ·cases he
    ·cases he
   ·have he : some (AV.nilSlice, h) = some (v, h') := he
    injection he with he; injection he with h1 h2; subst h1; subst h2
    cases hV
    refine (hc.nil_ g hg w Lm.B hs.size hlt hcell).mono ?_
    rintro en w' ⟨rfl, hbel⟩
    exact ⟨ρ, _, rfl, Sub.refl _, Kept.refl _ _, .nilSlice, hs.grew (grew_of_below hbel)⟩
   ·cases he
  ·cases he
 ·cases he
theorem own_ofI {P : Program} {k : TypeId} (hk : P.underlying k = some (.int .i64)) {w : World} {b clock : Nat} {es : Array MapEntry} (hb : w.heap[b]? = some (.map es clock)) (hst : MapKept.Stamped es clock) (hkeys : ∀ x ∈ es.toList, ∃ n, x.key = .int .i64 n ∧ (Lit.int .i64 n).wf = true) (hsz : es.size ≤ 100000) :
  ∃ D0 : DataW Unit, w.ownsMap P k (fun _ => some (.nil, [])) b es.size D0 ∧ Maps.size D0 = es.size ∧ (intKeys D0).Perm (es.toList.map fun x => keyInt x.key) := by
 have hrd : ∀ x ∈ es.toList, WideElems.rd (H := Unit) P k (fun _ => some (.nil, [])) x = some (.int .i64 (keyInt x.key), .nil) := fun x hx => by
  obtain ⟨n, hn, hw⟩ := hkeys x hx
  have hkey : Go.keyOf P k (.int .i64 n) = some (.int .i64 n) := Maps.keyOf_int_mk hk hw
  simp [WideElems.rd, hn, hkey, keyInt]
 have hF : WideElems.Fit (H := Unit) P k (fun _ => some (.nil, [])) es clock := ⟨Nat.le_trans hsz (by decide), hst, fun x hx => ⟨_, hrd x hx⟩⟩
 refine ⟨_, ⟨es, clock, hb, hF, Nat.le_refl _, rfl⟩, ?_, ?_⟩
 ·show ((es.toList.map (WideElems.rg (H := Unit) P k fun _ => some (.nil, []))).foldr DataW.insert []).length = es.size
  rw [(WideShapes.sorted_perm _).length_eq, List.length_map, Array.length_toList]
 ·show (((es.toList.map (WideElems.rg (H := Unit) P k fun _ => some (.nil, []))).foldr DataW.insert []).map fun p => Go.intOf p.1).Perm _
  refine ((WideShapes.sorted_perm _).map _).trans ?_
  rw [List.map_map]
  refine .of_eq (List.map_congr_left fun x hx => ?_)
  show Go.intOf (WideElems.rg P k _ x).1 = _
  rw [WideElems.rg_of (hrd x hx)]
  rfl
end Go.VM
namespace Go.VM
open Go.RowKit
def repC (l c : Nat) : Nat → Nat
 | 0 => 0
 | n + 1 => c + Nat.shiftLeft (repC l c n) (8 * l)
noncomputable def repStr (l c n : Nat) (h : Heap) : Option (AV × Heap) := forceN (l * n) (fun m => forceN (repC l c n) (fun d => some (.str m d, h)))
noncomputable def repeatP (args : List AV) (h : Heap) : Option (AV × Heap) := match args with
 | [.str l c, .int .i64 (.ofNat n)] => cond (and (Nat.ble n 100000) (Nat.ble (l * n) 1000000)) (repStr l c n h) none
 | _ => none
def RepeatAt (P : Program) (w0 : Base) (f : Nat) : Prop := ∀ (s : ByteArray) (c : Nat) (w : World), w0.w.heap.size ≤ w.heap.size → c ≤ 100000 → s.size * c ≤ 1000000 →
 Calls P f #[.string s, .int .i64 c] w fun e w' => e = .returned (.string ⟨(Lib.repeatL s.data.toList c).toArray⟩) ∧ Below w.heap.size w w'
theorem repC_ok {l c : Nat} (hc : c < 256 ^ l) : ∀ n, repC l c n < 256 ^ (l * n) ∧ strBytes (l * n) (repC l c n) = Lib.repeatL (strBytes l c) n
 | 0 => by simp [repC, Lib.repeatL, strBytes]
 | n + 1 => by
  obtain ⟨h1, h2⟩ := repC_ok hc n
  have e : l * (n + 1) = l + l * n := by rw [Nat.mul_succ, Nat.add_comm]
  have hsh : repC l c (n + 1) = c + 256 ^ l * repC l c n := by
   show c + Nat.shiftLeft (repC l c n) (8 * l) = _
   rw [shl_eq]
  refine ⟨?_, ?_⟩
  ·rw [e, hsh]; exact add_lt hc h1
  ·rw [e, hsh, strBytes_append _ _ _ _ hc, h2]; rfl
theorem repeatP_ok {P : Program} {w0 : Base} {f : Nat} (hc : RepeatAt P w0 f) : PrimOk P w0 f repeatP := by
 intro ρ h w args A v h' hs hr he
 unfold repeatP at he
 split at he
 ·rename_i l c n
  cases hb : and (Nat.ble n 100000) (Nat.ble (l * n) 1000000) with
  | false => rw [hb] at he; cases he
  | true =>
   rw [hb, cond_true] at he
   rw [Bool.and_eq_true] at hb
   have h1 := Nat.le_of_ble_eq_true hb.1
   have h2 := Nat.le_of_ble_eq_true hb.2
   unfold repStr at he
   rw [forceN_eq, forceN_eq] at he
   injection he with he; injection he with e1 e2; subst e1; subst e2
   obtain ⟨X, Y, rfl, hx, hy⟩ := rel2 hr
   cases hx; cases hy
   rename_i hcl
   obtain ⟨k1, k2⟩ := repC_ok hcl n
   refine (hc (strOf l c) n w hs.size h1 (by rw [strOf_size]; exact h2)).mono ?_
   rintro en w' ⟨rfl, hbel⟩
   refine ⟨ρ, _, rfl, Sub.refl _, Kept.refl _ _, ?_, hs.grew (grew_of_below hbel)⟩
   have : (⟨(Lib.repeatL (strOf l c).data.toList n).toArray⟩ : ByteArray) = strOf (l * n) (repC l c n) := by
    show _ = (⟨⟨strBytes (l * n) (repC l c n)⟩⟩ : ByteArray)
    rw [k2]; rfl
   rw [this]
   exact .str _ _ k1
 ·cases he
end Go.VM
namespace Go.VM
section
variable {w0 : Base} {w : World} {ρ : Rho} {h : Heap}
end
section
variable [H : Hook] {P : Program}
end
end Go.VM
