/- Runs of a state from which all is well, told by hand, and with them what a copy of a tree of nodes does, in whatever order its maps are gone through. Conditions: the facts on the program that the structure CpFacts names. -/
import Derived.Test.YtdkbfimccddikaaGreatDoorUK
import Derived.KernelRfl
namespace Go.VM
section
variable {P : Program} {w0 : Base} {f0 : Nat} {CS0 : List Frame} {post : AV → Heap → Bool}
theorem Ends.of_steps {m m' : Machine} (h : Steps P m m') (e : Ends P w0 f0 CS0 post m') : Ends P w0 f0 CS0 post m := by
  obtain ⟨ρ, fr, w, v, V, hh, a, b⟩ := e
  exact ⟨ρ, fr, w, v, V, hh, h.trans a, b⟩
end
section
variable (P : Program) (w0 : Base) (f0 : Nat) (CS0 : List Frame) [Hook] (post : AV → Heap → Bool)
def Well (s : St) : Prop := ∀ m, Reach P w0 f0 CS0 m s → Ends P w0 f0 CS0 post m
end
noncomputable def sset (T : Slots) (d : Nat) (v : AV) : Slots := match T with
  | .mk n r => .mk n (r.set v (keyOf d))
theorem sset_n (T : Slots) (d : Nat) (v : AV) : (sset T d v).n = T.n := by cases T; rfl
theorem sset_get (T : Slots) (d i : Nat) (v : AV) : (sset T d v).get i = if d = i then v else T.get i := by
  obtain ⟨n, r⟩ := T
  by_cases h : d = i
  · subst h; rw [if_pos rfl]; exact Slots.get_set_same n r d v
  · rw [if_neg h]; exact Slots.get_set_other n r d i v h
def calm (k : List AItem) : Bool := match k with
  | .ops _ _ :: _ => false
  | .dops _ _ :: _ => false
  | .endRange _ :: _ => false
  | _ => true
theorem putK_sset {T : Slots} {d : Nat} {v : AV} {k : Slots → St} (h : d < T.n) : putK T (some d) v k = k (sset T d v) := by
  obtain ⟨n, r⟩ := T
  have hb : Nat.blt d n = true := by rw [Nat.blt_eq]; exact h
  show putIn n r d v k = _
  unfold putIn
  rw [hb]; rfl
section
variable {P : Program} {w0 : Base} {f0 : Nat} {CS0 : List Frame} [H : Hook] {post : AV → Heap → Bool}
theorem Well.go (hX : Env P w0) (hF : P.follows .mixedOrders = true) {T : Slots} {k : List AItem} {c : Ctx} {h : Heap} (g : Well P w0 f0 CS0 post (stepGo P T k c h)) : Well P w0 f0 CS0 post (.go T k c h) := fun _ ⟨m', a, b⟩ => (g m' (stepGo_reach ⟨⟩ hX hF b)).of_steps a
omit H in
theorem Well.un {m : AMode} {T : Slots} {c : Ctx} {h : Heap} (g : Well P w0 f0 CS0 post (stepUn P m T c h)) : Well P w0 f0 CS0 post (.un m T c h) := fun _ ⟨m', a, b⟩ => (g m' (stepUn_reach b)).of_steps a
omit H in
theorem Well.alt {l : List (AV × Heap)} {T : Slots} {k : List AItem} {c : Ctx} (g : ∀ p ∈ l, Well P w0 f0 CS0 post (altOne T k c p.1 p.2)) : Well P w0 f0 CS0 post (.alt l T k c) := by
  intro m h
  obtain ⟨fn, ds, dfr, cs⟩ := c
  obtain ⟨p, hp, ρ, fr, CS, w, V, R, S, hsteps, hs, hres, hg, hb, hm, hsus, hcs, hbot, hv⟩ := h
  exact (g p hp _ (finish_reach (am := .run) hs hres hg hb hm hsus hcs hbot hv)).of_steps hsteps
omit H in
theorem Well.heap {T : Slots} {k : List AItem} {c : Ctx} {h h' : Heap} (hk : calm k = true) (he : ∀ b, h'.get b = h.get b) (g : Well P w0 f0 CS0 post (.go T k c h')) : Well P w0 f0 CS0 post (.go T k c h) := by
  rintro m ⟨m', a, b⟩
  obtain ⟨fn, ds, dfr, cs⟩ := c
  obtain ⟨ρ, fr, CS, w, R, S, e, hs, hres, h3, h4, h5, hA, h6⟩ := b
  refine g m ⟨m', a, ρ, fr, CS, w, R, S, e, hs.sameGet he, ⟨hres.nodup, hres.none_, fun p hp => by rw [he]; exact hres.obj p hp⟩, h3, h4, h5, ?_, h6⟩
  generalize fr.tmps = t at hA
  generalize fr.todo = l at hA
  cases hA with
  | plain hT hK => exact .plain hT hK
  | ops => cases hk
  | dops => cases hk
  | endRange => cases hk
omit H in
theorem Well.less {T : Slots} {k : List AItem} {c : Ctx} {h : Heap} {b : Key} {o o' : AObj} (hk : calm k = true) (hT : ∃ i, (∃ q, T.get i = .ptr b q) ∨ T.get i = .map b) (hg : h.get b = some o) (hl : o.live = true)
    (ho : ∀ N ρ L O, ObjRel N ρ L O o → ObjRel N ρ L O o') (g : Well P w0 f0 CS0 post (.go T k c (h.put b o'))) : Well P w0 f0 CS0 post (.go T k c h) := by
  rintro m ⟨m', a, b1⟩
  obtain ⟨fn, ds, dfr, cs⟩ := c
  obtain ⟨ρ, fr, CS, w, R, S, e, hs, hres, h3, h4, h5, hA, h6⟩ := b1
  have hTr : TRel ρ T fr.tmps ∧ ∃ K, KRel k K ∧ K = fr.todo ∧ R = [] := by
    generalize fr.tmps = t at hA
    generalize fr.todo = l at hA
    cases hA with
    | plain hT hK => exact ⟨hT, _, hK, rfl, rfl⟩
    | ops => cases hk
    | dops => cases hk
    | endRange => cases hk
  obtain ⟨hTr, K, hK, hKe, rfl⟩ := hTr
  have hb : ∃ L, ρ b = some L := by
    obtain ⟨i, ⟨q, hi⟩ | hi⟩ := hT
    · have := hTr.at_ i
      rw [hi] at this
      generalize fr.tmps.getD i Go.undef = V at this
      cases this with
      | ptr _ _ L e => exact ⟨L, e⟩
    · have := hTr.at_ i
      rw [hi] at this
      generalize fr.tmps.getD i Go.undef = V at this
      cases this with
      | map _ L e => exact ⟨L, e⟩
  obtain ⟨L, hb⟩ := hb
  exact g m ⟨m', a, ρ, fr, CS, w, [], S, e, hs.less hg hl fun L _ => ho _ _ _ _, hres.kept (kept_put hb), h3, h4, h5, hKe ▸ .plain hTr hK, h6⟩
theorem ops_cons {all rest : List Oper} {k : List AItem} {c : Ctx} {o : Oper} {T : Slots} {h : Heap} : stepOps P all k c (o :: rest) T h = oneOp P o (.ops all (o :: rest)) k c T T h (fun T h => stepOps P all k c rest T h) (guardA o.guard all T) := rfl
theorem good_val {all rest : List Oper} {k : List AItem} {c : Ctx} {o : Oper} {T : Slots} {h h' : Heap} {d : Nat} {v : AV} (hg : o.guard = none) (hd : o.dst = some d) (hx : execA P o.op T h = .val v h') (hn : d < T.n)
    (g : Well P w0 f0 CS0 post (stepOps P all k c rest (sset T d v) h')) : Well P w0 f0 CS0 post (stepOps P all k c (o :: rest) T h) := by
  rw [ops_cons, hg]
  show Well P w0 f0 CS0 post (upon P (execA P o.op T h) T (.ops all (o :: rest) :: k) c (fun v h => putK T o.dst v (fun T => stepOps P all k c rest T h)))
  rw [hx, hd]
  show Well P w0 f0 CS0 post (putK T (some d) v (fun T => stepOps P all k c rest T h'))
  rw [putK_sset hn]; exact g
theorem good_unit {all rest : List Oper} {k : List AItem} {c : Ctx} {o : Oper} {T : Slots} {h h' : Heap} {v : AV} (hg : o.guard = none) (hd : o.dst = none) (hx : execA P o.op T h = .val v h')
    (g : Well P w0 f0 CS0 post (stepOps P all k c rest T h')) : Well P w0 f0 CS0 post (stepOps P all k c (o :: rest) T h) := by
  rw [ops_cons, hg]
  show Well P w0 f0 CS0 post (upon P (execA P o.op T h) T (.ops all (o :: rest) :: k) c (fun v h => putK T o.dst v (fun T => stepOps P all k c rest T h)))
  rw [hx, hd]; exact g
theorem good_alts (hX : Env P w0) (hF : P.follows .mixedOrders = true) {all rest : List Oper} {k : List AItem} {c : Ctx} {o : Oper} {T : Slots} {h : Heap} {d : Nat} {l : List (AV × Heap)} (hg : o.guard = none) (hd : o.dst = some d) (hx : execA P o.op T h = .alts l) (hn : d < T.n)
    (g : ∀ p ∈ l, Well P w0 f0 CS0 post (stepOps P all k c rest (sset T d p.1) p.2)) : Well P w0 f0 CS0 post (stepOps P all k c (o :: rest) T h) := by
  rw [ops_cons, hg]
  show Well P w0 f0 CS0 post (upon P (execA P o.op T h) T (.ops all (o :: rest) :: k) c (fun v h => putK T o.dst v (fun T => stepOps P all k c rest T h)))
  rw [hx]
  refine Well.alt fun p hp => ?_
  obtain ⟨fn, ds, dfr, cs⟩ := c
  show Well P w0 f0 CS0 post (putK T o.dst p.1 (fun T => .go T (.ops all rest :: k) (.mk fn ds dfr cs) p.2))
  rw [hd, putK_sset hn]
  exact Well.go hX hF (g p hp)
theorem good_call {all rest : List Oper} {k : List AItem} {fn : Nat} {ds : List ADef} {fk : FK} {cs : List AFrame} {o : Oper} {T : Slots} {h h' : Heap} {f : Nat} {args : List AV} {code : Code} (hg : o.guard = none) (hx : execA P o.op T h = .enter f args h') (hs : sumKind f = 0) (hb : bodyOf P f = some code)
    (g : Well P w0 f0 CS0 post (enter P f args .normal (.mk fn T (.ops all (o :: rest) :: k) ds .run fk :: cs) h' code)) : Well P w0 f0 CS0 post (stepOps P all k (.mk fn ds fk cs) (o :: rest) T h) := by
  rw [ops_cons, hg]
  show Well P w0 f0 CS0 post (upon P (execA P o.op T h) T (.ops all (o :: rest) :: k) (.mk fn ds fk cs) (fun v h => putK T o.dst v (fun T => stepOps P all k (.mk fn ds fk cs) rest T h)))
  rw [hx]
  show Well P w0 f0 CS0 post (enterK P (sumKind f) f args (.mk fn T (.ops all (o :: rest) :: k) ds .run fk) cs h')
  rw [hs]
  show Well P w0 f0 CS0 post (enterOr0 P f args (.mk fn T (.ops all (o :: rest) :: k) ds .run fk) cs h')
  unfold enterOr0
  rw [hb]; exact g
theorem good_back (hX : Env P w0) (hF : P.follows .mixedOrders = true) {all rest : List Oper} {k : List AItem} {fn : Nat} {ds : List ADef} {fk : FK} {cs : List AFrame} {o : Oper} {T : Slots} {h : Heap} {d : Nat} {v : AV} (hd : o.dst = some d) (hn : d < T.n)
    (g : Well P w0 f0 CS0 post (stepOps P all k (.mk fn ds fk cs) rest (sset T d v) h)) : Well P w0 f0 CS0 post (retTo v .normal (.mk fn T (.ops all (o :: rest) :: k) ds .run fk :: cs) h) := by
  show Well P w0 f0 CS0 post (putK T o.dst v (fun T => .go T (.ops all rest :: k) (.mk fn ds fk cs) h))
  rw [hd, putK_sset hn]
  exact Well.go hX hF g
end
section
variable {P : Program} {T : Slots} {h : Heap}
theorem ev_tmp (t : Nat) : ev P T (.tmp t) = T.get t := rfl
theorem x_move {x : Operand} {v : AV} (e : ev P T x = v) : execA P (.move x) T h = .val v h := by subst e; rfl
theorem x_assign {x : Operand} {v : AV} (e : ev P T x = v) : execA P (.assign x) T h = .val v h := by subst e; rfl
theorem x_nil {x : Operand} {b : Key} {o : Nat} (e : ev P T x = .ptr b o) : execA P (.nilCheck x) T h = .val (.ptr b o) h := by
  show xNil (ev P T x) h = _; rw [e]; rfl
theorem x_faddr {s f : Nat} {x : Operand} {b : Key} {o q : Nat} (e : ev P T x = .ptr b o) (hk : okField P s f = true) (hq : o + offOf P s f = q) : execA P (.fieldAddr s x f) T h = .val (.ptr b q) h := by
  show xFieldAddr P s f (ev P T x) h = _
  rw [e]; show cond (okField P s f) (forceN (o + offOf P s f) _) _ = _
  rw [hk, forceN_eq, hq]; rfl
theorem x_load {t : Nat} {x : Operand} {b : Key} {o e fz : Nat} {op : Bool} {cs : List AV} {v : AV} (he : ev P T x = .ptr b o) (ha : isAggT P t = false) (hk : known P t = true) (hg : h.get b = some (.cells e cs op fz)) (hv : hd (drop o cs) = some v) : execA P (.load t x) T h = .val v h := by
  have e1 : execP P (.load t x) T h = .val v h := by
    show xLoad P t (ev P T x) h = _
    rw [he]; show cond (isAggT P t) _ (cond (known P t) (okv (cellAt h b o) h _) _) = _
    rw [ha, hk]
    have : cellAt h b o = some v := by unfold cellAt; rw [hg]; exact hv
    rw [this]; rfl
  unfold execA; rw [e1]; rfl
theorem x_store {t : Nat} {x y : Operand} {b : Key} {o e : Nat} {op : Bool} {cs : List AV} {v : AV} (he : ev P T x = .ptr b o) (hy : ev P T y = v) (hk : known P t = true) (hs : szOf P t = 1) (hg : h.get b = some (.cells e cs op 0)) (hv : v.cells = [v]) (h1 : v.one = true) (hlt : Nat.ble (o + 1) (len cs) = true) :
    execA P (.store t x y) T h = .val .undef (h.put b (.cells e (splice cs o [v]) op 0)) := by
  show xStore P t (ev P T x) (ev P T y) h = _
  rw [he, hy]
  show cond (and (known P t) (Nat.beq (len v.cells) (szOf P t))) (match setCells h b o v.cells with | some h => Res.val .undef h | none => storeB b o v h (h.get b)) _ = _
  rw [hk, hs, hv]
  have : setCells h b o [v] = some (h.put b (.cells e (splice cs o [v]) op 0)) := by
    unfold setCells; rw [hg]
    show cond (Nat.ble (o + 1) (len cs)) (cond (allOne [v]) (cond (Nat.ble 0 o) _ none) none) none = _
    have : allOne [v] = true := by show cond v.one true false = true; rw [h1]; rfl
    rw [hlt, this, (Nat.ble_eq ▸ Nat.zero_le o : Nat.ble 0 o = true)]; rfl
  rw [this]; rfl
noncomputable def hnew (h : Heap) (o : AObj) : Heap := ⟨h.t.set o h.next, incr h.next⟩
theorem alloc_new {o : AObj} {k : Key → Heap → Res} (hf : h.get h.next = none) : h.alloc o k = k h.next (hnew h o) := by
  obtain ⟨t, n⟩ := h
  have hf : t.get n = none := hf
  show Option.rec (motive := fun _ => Res) (k n (.mk (t.set o n) (incr n))) (fun _ => .bad "key") (t.get n) = _
  rw [hf]; rfl
theorem hnew_get {o : AObj} (b : Key) : (hnew h o).get b = if h.next = b then some o else h.get b := by
  obtain ⟨t, n⟩ := h
  show (t.set o n).get b = _
  exact RT.get_set o n b t
theorem put_get (b k : Key) (o : AObj) : (h.put b o).get k = if b = k then some o else h.get k := by
  by_cases e : b = k
  · subst e; rw [if_pos rfl]; exact Heap.get_put_same h b o
  · rw [if_neg e]; exact Heap.get_put_other h b k o e
theorem put_next (b : Key) (o : AObj) : (h.put b o).next = h.next := by cases h; rfl
theorem x_makeMap {t : Nat} (hf : h.get h.next = none) : execA P (.makeMap t none) T h = .val (.map h.next) (hnew h (.map [] 0)) := by
  show h.alloc (.map [] 0) (fun b h => .val (.map b) h) = _
  rw [alloc_new hf]
theorem x_box {e : Nat} {x : Operand} {cs : List AV} (he : ev P T x = .agg cs) (hf : h.get h.next = none) : execA P (.box e x) T h = .val (.ptr h.next 0) (hnew h (.cells e cs false 0)) := by
  show xBox e (ev P T x) h = _
  rw [he]; show h.alloc (.cells e cs false 0) (fun b h => .val (.ptr b 0) h) = _
  rw [alloc_new hf]
theorem x_extract {x : Operand} {i : Nat} {vs : List AV} {v : AV} (he : ev P T x = .tup vs) (hv : hd (drop i vs) = some v) : execA P (.extract x i) T h = .val v h := by
  show xExtract (ev P T x) i h = _
  rw [he]; show okv (hd (drop i vs)) h _ = _; rw [hv]; rfl
theorem x_mapUpd {t kt et : Nat} {m k v : Operand} {b : Key} {k' v' : AV} {es es' : List (AV × AV)} {n : Bool} (hm : ev P T m = .map b) (hk : ev P T k = k') (hv : ev P T v = v') (hu : P.underlying t = some (.map kt et)) (ht : keyT P kt = true) (hg : h.get b = some (.lmap es)) (hs : setL P h kt k' v' es = some (es', n)) :
    execA P (.mapUpdate t m k v) T h = .val .undef (h.put b (.lmap es')) := by
  show xMapUpdate P t (ev P T m) (ev P T k) (ev P T v) h = _
  rw [hm, hk, hv]; unfold xMapUpdate; rw [hu]
  show cond (keyT P kt) _ _ = _
  rw [ht, hg]
  show (match setL P h kt k' v' es with | some (es, _) => Res.val .undef (h.put b (.lmap es)) | none => .bad "mapUpdate key") = _
  rw [hs]
theorem setL_new {kt : Nat} {k v : AV} : ∀ {es : List (AV × AV)}, (∀ e ∈ es, eqT P h kt k e.1 = some false) → setL P h kt k v es = some (es ++ [(k, v)], true)
  | [], _ => rfl
  | (k', v') :: r, hn => by
    unfold setL
    rw [hn (k', v') (List.mem_cons_self ..), setL_new fun e he => hn e (List.mem_cons_of_mem _ he)]
    rfl
theorem eqT_ptr {t e : Nat} {a b : Key} (hu : P.underlying t = some (.pointer e)) (hz : Nat.beq (szOf P e) 0 = false) (ha : liveA h a = true) (hb : liveA h b = true) (hne : a ≠ b) : eqT P h t (.ptr a 0) (.ptr b 0) = some false := by
  have hs : Key.same a b = false := by
    cases hb : Key.same a b with
    | false => rfl
    | true => exact absurd ((Key.same_iff a b).1 hb) hne
  have : eqA P h 50 t (.ptr a 0) (.ptr b 0) = some false := by
    unfold eqA; rw [hu]
    show cond (Nat.beq (szOf P e) 0) none (eqPtr h a 0 b 0) = _
    rw [hz]; show eqPtr h a 0 b 0 = _
    unfold eqPtr; rw [hs, ha, hb]; rfl
  unfold eqT; rw [this]; rfl
theorem eqT_str {t la ca lb cb : Nat} (hu : P.underlying t = some .string) (hne : ¬ (la = lb ∧ ca = cb)) : eqT P h t (.str la ca) (.str lb cb) = some false := by
  have : eqA P h 50 t (.str la ca) (.str lb cb) = some false := by
    unfold eqA; rw [hu]
    show some (cond (Nat.beq la lb) (Nat.beq ca cb) false) = _
    cases h1 : Nat.beq la lb with
    | false => rfl
    | true => cases h2 : Nat.beq ca cb with
      | false => rfl
      | true => exact absurd ⟨Nat.eq_of_beq_eq_true h1, Nat.eq_of_beq_eq_true h2⟩ hne
  unfold eqT; rw [this]; rfl
theorem live_cells {b : Key} {e : Nat} {cs : List AV} (hg : h.get b = some (.cells e cs false 0)) : liveA h b = true := by
  unfold liveA; rw [hg]; rfl
theorem x_call {f : Nat} {ops : Array Operand} {ts : Array Nat} {args : List AV} (ha : evs P T ops.toList = args) : execA P (.call { callee := .value (.func f), args := ops, argTypes := ts }) T h = .enter f args h := by
  subst ha
  show Res.enter f (cat [] (cat (evs P T ops.toList) [])) h = _
  have : ∀ l : List AV, cat l [] = l := fun l => by rw [cat_eq, List.append_nil]
  rw [this]; rfl
def knum (k : Key) : Nat := k.a.num + 8 * (k.b.num + 8 * (k.c.num + 8 * (k.d.num + 8 * k.e.num)))
theorem ofNat_num (d : D8) : D8.ofNat d.num = d := by cases d <;> rfl
theorem num_lt (d : D8) : d.num < 8 := by cases d <;> decide
theorem keyN_knum (k : Key) : keyN (knum k) = k := by
  obtain ⟨a, b, c, d, e⟩ := k
  have ha := num_lt a; have hb := num_lt b; have hc := num_lt c; have hd := num_lt d; have he := num_lt e
  show Key.mk (D8.ofNat (_ % 8)) (D8.ofNat (_ / 8 % 8)) (D8.ofNat (_ / 64 % 8)) (D8.ofNat (_ / 512 % 8)) (D8.ofNat (_ / 4096)) = _
  have e1 : knum ⟨a, b, c, d, e⟩ % 8 = a.num := by unfold knum; dsimp only; omega
  have e2 : knum ⟨a, b, c, d, e⟩ / 8 % 8 = b.num := by unfold knum; dsimp only; omega
  have e3 : knum ⟨a, b, c, d, e⟩ / 64 % 8 = c.num := by unfold knum; dsimp only; omega
  have e4 : knum ⟨a, b, c, d, e⟩ / 512 % 8 = d.num := by unfold knum; dsimp only; omega
  have e5 : knum ⟨a, b, c, d, e⟩ / 4096 = e.num := by unfold knum; dsimp only; omega
  rw [e1, e2, e3, e4, e5, ofNat_num, ofNat_num, ofNat_num, ofNat_num, ofNat_num]
theorem knum_keyN {i : Nat} (h : i < 32768) : knum (keyN i) = i := by
  unfold knum keyN
  dsimp only
  rw [D8.num_ofNat _ (by omega), D8.num_ofNat _ (by omega), D8.num_ofNat _ (by omega), D8.num_ofNat _ (by omega), D8.num_ofNat _ (by omega)]
  omega
theorem nextD_ok {α : Type} (k : D8 → α) (r : α) (d : D8) : nextD k r d = if d.num < 7 then k (D8.ofNat (d.num + 1)) else r := by cases d <;> rfl
theorem incr_keyN {i : Nat} (h : i + 1 < 32768) : incr (keyN i) = keyN (i + 1) := by
  have hn : knum (incr (keyN i)) = i + 1 := by
    show knum (incr5 _ _ _ _ _) = _
    unfold incr5
    simp only [nextD_ok]
    rw [D8.num_ofNat _ (by omega), D8.num_ofNat _ (by omega), D8.num_ofNat _ (by omega), D8.num_ofNat _ (by omega), D8.num_ofNat _ (by omega)]
    have hz : D8.num .d0 = 0 := rfl
    repeat' split
    all_goals first | (exfalso; omega) | (unfold knum; dsimp only; simp (disch := omega) only [D8.num_ofNat, hz]; omega)
  rw [← hn, keyN_knum]
end
section
variable {P : Program} {T : Slots} {h : Heap}
def stampN : List (AV × AV) → Nat → List (AV × AV × Key)
  | [], _ => []
  | e :: r, n => (e.1, e.2, keyN n) :: stampN r (n + 1)
theorem stampN_ok : ∀ (es : List (AV × AV)) (n : Nat) (h : Heap) (k : List (AV × AV × Key) → Heap → Res), h.next = keyN n → (∀ q, n ≤ q → q < n + es.length → h.get (keyN q) = none) → n + es.length < 32768 →
    ∃ h', stampKs es h k = k (stampN es n) h' ∧ h'.next = keyN (n + es.length) ∧ (∀ b, (∀ q, n ≤ q → q < n + es.length → keyN q ≠ b) → h'.get b = h.get b) ∧ ∀ q, n ≤ q → q < n + es.length → h'.get (keyN q) = some .dead
  | [], n, h, k, hn, _, _ => ⟨h, rfl, hn, fun _ _ => rfl, fun q h1 h2 => absurd h2 (by simp only [List.length_nil]; omega)⟩
  | e :: r, n, h, k, hn, hf, hl => by
    simp only [List.length_cons] at hf hl
    have h0 : h.get h.next = none := by rw [hn]; exact hf n (Nat.le_refl _) (by omega)
    obtain ⟨h', e1, e2, e3, e4⟩ := stampN_ok r (n + 1) (hnew h .dead) (fun l h => k ((e.1, e.2, keyN n) :: l) h) (by show incr h.next = _; rw [hn]; exact incr_keyN (by omega)) (fun q h1 h2 => by
      rw [hnew_get, if_neg (by rw [hn]; intro e; have := keyN_inj (by omega) (by omega) e; omega)]
      exact hf q (by omega) (by omega)) (by omega)
    refine ⟨h', ?_, ?_, ?_, ?_⟩
    · show h.alloc .dead (fun b h => stampKs r h (fun l h => k ((e.1, e.2, b) :: l) h)) = _
      rw [alloc_new h0, hn, e1]; rfl
    · rw [e2]; simp only [List.length_cons]; congr 1; omega
    · intro b hb
      simp only [List.length_cons] at hb
      rw [e3 b fun q h1 h2 => hb q (by omega) (by omega), hnew_get, if_neg (by rw [hn]; exact hb n (Nat.le_refl _) (by omega))]
    · intro q h1 h2
      simp only [List.length_cons] at h2
      by_cases hq : q = n
      · subst hq
        rw [e3 _ fun q' h3 h4 e => by have := keyN_inj (by omega) (by omega) e; omega, hnew_get, if_pos hn]
      · exact e4 q (by omega) (by omega)
theorem x_range {t : Nat} {x : Operand} {K : Key} {es : List (AV × AV)} {n : Nat} (he : ev P T x = .map K) (ht : isMapT P t = true) (hg : h.get K = some (.lmap es)) (hn : h.next = keyN n) (hf : ∀ q, n ≤ q → q < n + es.length + 2 → h.get (keyN q) = none) (hl : n + es.length + 2 < 32768) :
    ∃ h', execA P (.range t x) T h = .val (.ptr (keyN (n + es.length + 1)) 0) h' ∧ h'.next = keyN (n + es.length + 2) ∧ h'.get K = some (.smap (stampN es n) (keyN (n + es.length))) ∧ h'.get (keyN (n + es.length + 1)) = some (.smiter K (keysS (stampN es n)) [] (keyN (n + es.length))) ∧
      (∀ q, n ≤ q → q < n + es.length + 1 → h'.get (keyN q) = some .dead) ∧ ∀ b, b ≠ K → (∀ q, n ≤ q → q < n + es.length + 2 → keyN q ≠ b) → h'.get b = h.get b := by
  obtain ⟨h1, e1, e2, e3, e4⟩ := stampN_ok es n h (fun l h => rangeS K l h) hn (fun q a b => hf q a (by omega)) (by omega)
  have hK : ∀ q, n ≤ q → q < n + es.length + 2 → keyN q ≠ K := fun q a b e => by rw [← e, hf q a b] at hg; cases hg
  have f1 : h1.get h1.next = none := by rw [e2, e3 _ fun q a b e => by have := keyN_inj (by omega) (by omega) e; omega]; exact hf _ (by omega) (by omega)
  have g1 : ∀ b, (hnew h1 .dead).get b = if keyN (n + es.length) = b then some .dead else h1.get b := fun b => by rw [hnew_get, e2]
  have n1 : ((hnew h1 .dead).put K (.smap (stampN es n) (keyN (n + es.length)))).next = keyN (n + es.length + 1) := by
    rw [put_next]; show incr h1.next = _; rw [e2]; exact incr_keyN (by omega)
  have f2 : ((hnew h1 .dead).put K (.smap (stampN es n) (keyN (n + es.length)))).get ((hnew h1 .dead).put K (.smap (stampN es n) (keyN (n + es.length)))).next = none := by
    rw [n1, put_get, if_neg (fun e => hK _ (by omega) (by omega) e.symm), g1, if_neg (fun e => by have := keyN_inj (by omega) (by omega) e; omega), e3 _ fun q a b e => by have := keyN_inj (by omega) (by omega) e; omega]
    exact hf _ (by omega) (by omega)
  refine ⟨hnew ((hnew h1 .dead).put K (.smap (stampN es n) (keyN (n + es.length)))) (.smiter K (keysS (stampN es n)) [] (keyN (n + es.length))), ?_, ?_, ?_, ?_, ?_, ?_⟩
  · show xRangeC P t (ev P T x) h = _
    rw [he]
    show cond (isMapT P t) (match h.get K with
      | some (.map _ clock) => h.alloc (.miter (some K) clock [] clock) (fun b h => .val (.ptr b 0) h)
      | some (.lmap es) => stampKs es h (fun l h => rangeS K l h)
      | _ => .bad "range") _ = _
    rw [ht, hg]
    show stampKs es h (fun l h => rangeS K l h) = _
    rw [e1]
    show h1.alloc .dead (fun c h => (h.put K (.smap (stampN es n) c)).alloc (.smiter K (keysS (stampN es n)) [] c) (fun b h => .val (.ptr b 0) h)) = _
    rw [alloc_new f1, e2, alloc_new f2, n1]
  · have n2 : (hnew ((hnew h1 .dead).put K (.smap (stampN es n) (keyN (n + es.length)))) (.smiter K (keysS (stampN es n)) [] (keyN (n + es.length)))).next = incr ((hnew h1 .dead).put K (.smap (stampN es n) (keyN (n + es.length)))).next := rfl
    rw [n2, n1]; exact incr_keyN (by omega)
  · rw [hnew_get, n1, if_neg (hK _ (by omega) (by omega)), put_get, if_pos rfl]
  · rw [hnew_get, n1, if_pos rfl]
  · intro q a b
    rw [hnew_get, n1, if_neg (fun e => by have := keyN_inj (by omega) (by omega) e; omega), put_get, if_neg (fun e => hK q a (by omega) e.symm), g1]
    by_cases hq : q = n + es.length
    · rw [if_pos (by rw [hq])]
    · rw [if_neg (fun e => by have := keyN_inj (by omega) (by omega) e; omega)]; exact e4 q a (by omega)
  · intro b hb hq
    rw [hnew_get, n1, if_neg (hq _ (by omega) (by omega)), put_get, if_neg (fun e => hb e.symm), g1, if_neg (hq _ (by omega) (by omega)), e3 b fun q a c => hq q a (by omega)]
theorem x_entry {x : Operand} {it K ck a : Key} {all seen : List Key} {ses : List (AV × AV × Key)} {p : AV × AV} (he : ev P T x = .ptr it 0) (h1 : h.get it = some (.smiter K all seen ck)) (h2 : h.get K = some (.smap ses ck)) (hs : seen.getLast? = some a) (hf : findS a ses = some p) :
    execA P (.entry x) T h = .val (.tup [p.1, p.2]) h := by
  show xEntry (ev P T x) h = _
  rw [he]
  show xEntryAt it h = _
  unfold xEntryAt; rw [h1]
  show xEntrySm K seen ck h = _
  unfold xEntrySm; rw [h2, hs]
  show cond (Key.same ck ck) (entryS (findS a ses) h) _ = _
  rw [(Key.same_iff ck ck).2 rfl, hf]; rfl
end
section
variable {P : Program} {w0 : Base} {f0 : Nat} {CS0 : List Frame} [H : Hook] {post : AV → Heap → Bool}
omit H in
theorem altsS_all {b m ck : Key} {al seen : List Key} {h : Heap} {Q : AV × Heap → Prop} : ∀ {l : List (AV × AV × Key)}, (∀ e ∈ l, Q (.tup [.bool true, e.1, e.2.1], h.put b (.smiter m al (cat seen [e.2.2]) ck))) → ∀ p ∈ altsS b m al seen ck h l, Q p
  | [], _, p, hp => by cases hp
  | (k, v, c) :: r, hq, p, hp => by
    cases hp with
    | head => exact hq (k, v, c) (List.mem_cons_self ..)
    | tail _ hp => exact altsS_all (fun e he => hq e (List.mem_cons_of_mem _ he)) p hp
theorem good_next (hX : Env P w0) (hF : P.follows .mixedOrders = true) {all rest : List Oper} {k : List AItem} {c : Ctx} {o : Oper} {T : Slots} {h : Heap} {d : Nat} {x : Operand} {it K ck : Key} {al seen : List Key} {ses : List (AV × AV × Key)} (hg : o.guard = none) (hd : o.dst = some d) (ho : o.op = .next x false) (hn : d < T.n)
    (he : ev P T x = .ptr it 0) (h1 : h.get it = some (.smiter K al seen ck)) (h2 : h.get K = some (.smap ses ck)) (hs : sameKs al (keysS ses) = true) (hb : subK al seen = true)
    (g0 : leftS seen ses = [] → Well P w0 f0 CS0 post (stepOps P all k c rest (sset T d (.tup [.bool false])) h))
    (g1 : ∀ e ∈ leftS seen ses, Well P w0 f0 CS0 post (stepOps P all k c rest (sset T d (.tup [.bool true, e.1, e.2.1])) (h.put it (.smiter K al (cat seen [e.2.2]) ck)))) : Well P w0 f0 CS0 post (stepOps P all k c (o :: rest) T h) := by
  have hx : execA P o.op T h = nextS1 it K al seen ck h (leftS seen ses) := by
    rw [ho]
    show xNext (ev P T x) false h = _
    rw [he]
    show xNextAt it false h = _
    unfold xNextAt; rw [h1]
    show xNextSm it K al seen h = _
    unfold xNextSm; rw [h2]
    show cond (and (sameKs al (keysS ses)) (subK al seen)) _ _ = _
    rw [hs, hb]; rfl
  generalize leftS seen ses = l at hx g0 g1
  match l, hx, g0, g1 with
  | [], hx, g0, _ => exact good_val hg hd hx hn (g0 rfl)
  | [(a, b, q)], hx, _, g1 => exact good_val hg hd hx hn (g1 (a, b, q) (List.mem_cons_self ..))
  | e1 :: e2 :: r, hx, _, g1 => exact good_alts hX hF hg hd hx hn (altsS_all (Q := fun p => Well P w0 f0 CS0 post (stepOps P all k c rest (sset T d p.1) p.2)) g1)
def okMask (es : List Nat) (i : Nat) : List Oper → Nat → Bool
  | [], _ => true
  | o :: r, q => cond (match o.dst with | some d => cond (Nat.beq d i) (elemN q es) true | none => true) (okMask es i r (q + 1)) false
omit H in
theorem maskI_get {es : List Nat} {i n : Nat} : ∀ {l : List Oper} {q : Nat} {r : ST}, okMask es i l q = true → (Slots.mk n (maskGo es q l r)).get i = (Slots.mk n r).get i
  | [], _, _, _ => rfl
  | o :: l, q, r, h => by
    unfold okMask at h
    obtain ⟨h1, h2⟩ := condB h
    unfold maskGo
    rw [maskI_get h2]
    cases he : elemN q es with
    | true => rfl
    | false =>
      cases hd : o.dst with
      | none => rfl
      | some d =>
        rw [hd, he] at h1
        have hne : d ≠ i := fun e => by subst e; simp at h1
        show (Slots.mk n (r.set .junk (keyOf d))).get i = _
        exact Slots.get_set_other _ _ _ _ _ hne
omit H in
theorem mask_get {es : List Nat} {all : List Oper} {T : Slots} {i : Nat} (h : okMask (cat es (closers all)) i all 0 = true) : (maskT es all T).get i = T.get i := by
  obtain ⟨n, r⟩ := T
  exact maskI_get h
omit H in
theorem mask_n {es : List Nat} {all : List Oper} {T : Slots} : (maskT es all T).n = T.n := by cases T; rfl
theorem plan_op {all : List Oper} {rest : List PStep} {k : List AItem} {c : Ctx} {i : Nat} {o : Oper} {T : Slots} {h h' : Heap} {d : Nat} {v : AV} (ho : operAt all i = some o) (hg : o.guard = none) (hd : o.dst = some d) (hx : execA P o.op (maskT (edgesOf o) all T) h = .val v h') (hn : d < T.n)
    (g : Well P w0 f0 CS0 post (stepPlan P all k c rest (sset T d v) h')) : Well P w0 f0 CS0 post (stepPlan P all k c (.op i :: rest) T h) := by
  show Well P w0 f0 CS0 post (opD P i rest all k c T h (stepPlan P all k c rest))
  unfold opD
  rw [ho]
  show Well P w0 f0 CS0 post (oneOpD P o (.dops all (.op i :: rest)) k c (maskT (edgesOf o) all T) T h (stepPlan P all k c rest) (guardA o.guard all (maskT (edgesOf o) all T)))
  rw [hg]
  show Well P w0 f0 CS0 post (upon P (execD P o.op (maskT (edgesOf o) all T) h) T (.dops all (.op i :: rest) :: k) c (fun v h => putK T o.dst v (fun T => stepPlan P all k c rest T h)))
  have : execD P o.op (maskT (edgesOf o) all T) h = .val v h' := by unfold execD; rw [hx]; rfl
  rw [this, hd]
  show Well P w0 f0 CS0 post (putK T (some d) v (fun T => stepPlan P all k c rest T h'))
  rw [putK_sset hn]; exact g
theorem plan_chk {all : List Oper} {rest : List PStep} {k : List AItem} {c : Ctx} {i : Nat} {o : Oper} {T : Slots} {h h' : Heap} {d : Nat} {v : AV} (ho : operAt all i = some o) (hg : o.guard = none) (hd : o.dst = some d) (hx : execA P o.op (maskT (edgesOf o) all T) h = .val v h') (hv : T.get d = v) (hb : beqA 60 v v = true)
    (g : Well P w0 f0 CS0 post (stepPlan P all k c rest T h)) : Well P w0 f0 CS0 post (stepPlan P all k c (.chk i :: rest) T h) := by
  show Well P w0 f0 CS0 post (chkD P i all T h (stepPlan P all k c rest))
  unfold chkD
  rw [ho]
  show Well P w0 f0 CS0 post (cond (chkO P o all T h) (stepPlan P all k c rest T h) _)
  have : chkO P o all T h = true := by
    unfold chkO
    rw [hd, hg]
    show same (execD P o.op (maskT (edgesOf o) all T) h) (T.get d) = true
    have : execD P o.op (maskT (edgesOf o) all T) h = .val v h' := by unfold execD; rw [hx]; rfl
    rw [this, hv]; exact hb
  rw [this]; exact g
theorem plan_nil {all : List Oper} {k : List AItem} {c : Ctx} {T : Slots} {h : Heap} (hX : Env P w0) (hF : P.follows .mixedOrders = true) (g : Well P w0 f0 CS0 post (stepGo P T k c h)) : Well P w0 f0 CS0 post (stepPlan P all k c [] T h) := Well.go hX hF g
theorem ops_nil {all : List Oper} {k : List AItem} {c : Ctx} {T : Slots} {h : Heap} (hX : Env P w0) (hF : P.follows .mixedOrders = true) (g : Well P w0 f0 CS0 post (stepGo P T k c h)) : Well P w0 f0 CS0 post (stepOps P all k c [] T h) := Well.go hX hF g
end
structure CpR where
  lo : List (Key × AObj)
  kd : AV
  md : AV
  dt : AV
  en : List (AV × AV)
  rd : List Key
  nx : Nat
structure Kid where
  a : Nat
  l : Nat
  c : Nat
  x : Key
  n : Nat
  r : CpR
def rootO (tn : Nat) (kd md dt : AV) (n : Nat) (up nm : AV) : AObj := .cells tn [kd, md, dt, .map (keyN n), up, nm] false 0
def Kid.y (k : Kid) : Key := keyN (k.n + 1)
def Kid.nm (k : Kid) : AV := .str k.l k.c
def Kid.objs (tn : Nat) (y : Key) (k : Kid) : List (Key × AObj) := cat k.r.lo [(k.y, rootO tn k.r.kd k.r.md k.r.dt k.n (.ptr y 0) k.nm)]
def flatL {α : Type} (f : Kid → List α) : List Kid → List α
  | [] => []
  | k :: r => cat (f k) (flatL f r)
def deadL : Nat → Nat → List (Key × AObj)
  | _, 0 => []
  | n, k + 1 => (keyN n, .dead) :: deadL (n + 1) k
def namesK : List Kid → List (AV × AV)
  | [] => []
  | k :: r => (k.nm, .ptr k.y 0) :: namesK r
def cpKids (go : Key → Nat → Option CpR) : List (AV × AV) → Nat → Nat → Option (List Kid × Nat)
  | [], n, _ => some ([], n)
  | e :: r, n, a => match e.1, e.2 with
    | .str l c, .ptr x 0 => (match go x n with
      | some q => (match cpKids go r q.nx (a + 1) with
        | some (ks, m) => some (⟨a, l, c, x, n, q⟩ :: ks, m)
        | none => none)
      | none => none)
    | _, _ => none
def otherNames (l c : Nat) : List Kid → Bool
  | [] => true
  | k :: r => cond (cond (Nat.beq l k.l) (Nat.beq c k.c) false) false (otherNames l c r)
def namesOk : List Kid → Bool
  | [] => true
  | k :: r => cond (otherNames k.l k.c r) (namesOk r) false
def cpMk (tn : Nat) (x K : Key) (n len : Nat) (kd md dt : AV) (p : Option (List Kid × Nat)) : Option CpR := match p with
  | some (ks, m) => cond (namesOk ks) (some ⟨cat (deadL (n + 2) (len + 2)) (cat (flatL (Kid.objs tn (keyN (n + 1))) ks) [(keyN n, .lmap (namesK ks))]), kd, md, dt, (.ptr x 0, .ptr (keyN (n + 1)) 0) :: flatL (fun k => k.r.en) ks, x :: K :: flatL (fun k => k.r.rd) ks, m⟩) none
  | none => none
noncomputable def cpIn (tn : Nat) (t : RT AObj) (go : Key → Nat → Option CpR) (x : Key) (n : Nat) (kd md dt : AV) (K : Key) : Option CpR := match t.get K with
  | some (.lmap es) => cpMk tn x K n (len es) kd md dt (cpKids go es (n + len es + 4) (n + 2))
  | _ => none
noncomputable def cpOf (tn : Nat) (t : RT AObj) (go : Key → Nat → Option CpR) (x : Key) (n : Nat) : Option CpR := match t.get x with
  | some (.cells e [kd, md, dt, .map K, _, _] false 0) => cond (and (Nat.beq e tn) (and kd.plain (and md.plain dt.plain))) (cpIn tn t go x n kd md dt K) none
  | _ => none
noncomputable def cpN (tn : Nat) (t : RT AObj) : Nat → Key → Nat → Option CpR
  | 0, _, _ => none
  | d + 1, x, n => cpOf tn t (cpN tn t d) x n
def lk : List (Key × AObj) → Key → Option AObj
  | [], _ => none
  | p :: r, b => match lk r b with
    | some o => some o
    | none => if p.1 = b then some p.2 else none
def orO (a b : Option AObj) : Option AObj := match a with
  | some o => some o
  | none => b
theorem orO_none (a : Option AObj) : orO a none = a := by cases a <;> rfl
theorem orO_assoc (a b c : Option AObj) : orO (orO a b) c = orO a (orO b c) := by cases a <;> rfl
theorem lk_append : ∀ (A B : List (Key × AObj)) (b : Key), lk (A ++ B) b = orO (lk B b) (lk A b)
  | [], B, b => by rw [List.nil_append]; exact (orO_none _).symm
  | p :: A, B, b => by
    show (match lk (A ++ B) b with | some o => some o | none => if p.1 = b then some p.2 else none) = orO (lk B b) (match lk A b with | some o => some o | none => if p.1 = b then some p.2 else none)
    rw [lk_append A B b]
    cases lk B b <;> cases lk A b <;> rfl
theorem lk_none : ∀ {L : List (Key × AObj)} {b : Key}, (∀ p ∈ L, p.1 ≠ b) → lk L b = none
  | [], _, _ => rfl
  | p :: r, b, h => by
    show (match lk r b with | some o => some o | none => if p.1 = b then some p.2 else none) = none
    rw [lk_none fun q hq => h q (List.mem_cons_of_mem _ hq), if_neg (h p (List.mem_cons_self ..))]
theorem lk_some : ∀ {L : List (Key × AObj)} {b : Key} {o : AObj}, lk L b = some o → ∃ p ∈ L, p.1 = b
  | [], _, _, h => by cases h
  | p :: r, b, o, h => by
    have h : (match lk r b with | some o => some o | none => if p.1 = b then some p.2 else none) = some o := h
    cases hr : lk r b with
    | some o' => obtain ⟨q, hq, e⟩ := lk_some hr; exact ⟨q, List.mem_cons_of_mem _ hq, e⟩
    | none =>
      rw [hr] at h
      by_cases e : p.1 = b
      · exact ⟨p, List.mem_cons_self .., e⟩
      · have h : (if p.1 = b then some p.2 else none) = some o := h
        rw [if_neg e] at h; cases h
theorem putObjs_get : ∀ (L : List (Key × AObj)) (h : Heap) (b : Key), (putObjs L h).get b = orO (lk L b) (h.get b)
  | [], _, _ => rfl
  | p :: r, h, b => by
    show (putObjs r (h.put p.1 p.2)).get b = orO (match lk r b with | some o => some o | none => if p.1 = b then some p.2 else none) _
    rw [putObjs_get r, put_get]
    cases lk r b with
    | some o => rfl
    | none =>
      by_cases e : p.1 = b
      · simp [orO, e]
      · simp [orO, e]
theorem mem_flatL {α : Type} {f : Kid → List α} {a : α} : ∀ {ks : List Kid}, a ∈ flatL f ks ↔ ∃ k ∈ ks, a ∈ f k
  | [] => by simp [flatL]
  | k :: r => by
    show a ∈ cat (f k) (flatL f r) ↔ _
    rw [cat_eq, List.mem_append, mem_flatL]
    simp
theorem flatL_append {α : Type} {f : Kid → List α} : ∀ {a b : List Kid}, flatL f (a ++ b) = flatL f a ++ flatL f b
  | [], _ => rfl
  | k :: r, b => by
    show cat (f k) (flatL f (r ++ b)) = cat (f k) (flatL f r) ++ flatL f b
    rw [cat_eq, cat_eq, flatL_append, List.append_assoc]
theorem flatL_perm {α : Type} {f : Kid → List α} {a b : List Kid} (h : a.Perm b) : (flatL f a).Perm (flatL f b) := by
  induction h with
  | nil => exact .refl _
  | cons k _ ih => show (cat (f k) _).Perm (cat (f k) _); rw [cat_eq, cat_eq]; exact ih.append_left _
  | swap x y l =>
    show (cat (f y) (cat (f x) _)).Perm (cat (f x) (cat (f y) _))
    rw [cat_eq, cat_eq, cat_eq, cat_eq, ← List.append_assoc, ← List.append_assoc]
    exact List.perm_append_comm.append_right _
  | trans _ _ h1 h2 => exact h1.trans h2
theorem namesK_eq : ∀ ks : List Kid, namesK ks = ks.map fun k => (k.nm, .ptr k.y 0)
  | [] => rfl
  | k :: r => by show (k.nm, AV.ptr k.y 0) :: namesK r = _; rw [namesK_eq r]; rfl
theorem deadL_mem : ∀ {k n : Nat} {p : Key × AObj}, p ∈ deadL n k → ∃ q, n ≤ q ∧ q < n + k ∧ p = (keyN q, .dead)
  | 0, _, _, h => by cases h
  | k + 1, n, p, h => by
    cases h with
    | head => exact ⟨n, Nat.le_refl _, by omega, rfl⟩
    | tail _ h => obtain ⟨q, a, b, c⟩ := deadL_mem h; exact ⟨q, by omega, by omega, c⟩
theorem deadL_lk {N : Nat} : ∀ {k n q : Nat}, n + k ≤ N → N ≤ 32768 → n ≤ q → q < n + k → lk (deadL n k) (keyN q) = some .dead
  | 0, n, q, _, _, a, b => by omega
  | k + 1, n, q, h1, h2, a, b => by
    show (match lk (deadL (n + 1) k) (keyN q) with | some o => some o | none => if keyN n = keyN q then some .dead else none) = some .dead
    by_cases e : q = n
    · subst e
      cases h : lk (deadL (q + 1) k) (keyN q) with
      | none => simp
      | some o =>
        obtain ⟨p, hp, e⟩ := lk_some h
        obtain ⟨q', a', b', rfl⟩ := deadL_mem hp
        have := keyN_inj (by omega) (by omega) e
        omega
    · rw [deadL_lk (N := N) (by omega) h2 (by omega) (by omega)]
theorem cpKids_nil {go : Key → Nat → Option CpR} {n a : Nat} {ks : List Kid} {m : Nat} (h : cpKids go [] n a = some (ks, m)) : ks = [] ∧ m = n := by
  have h : some (([] : List Kid), n) = some (ks, m) := h
  cases h; exact ⟨rfl, rfl⟩
theorem cpKids_cons {go : Key → Nat → Option CpR} {e : AV × AV} {r : List (AV × AV)} {n a : Nat} {ks : List Kid} {m : Nat} (h : cpKids go (e :: r) n a = some (ks, m)) :
    ∃ l c x q ks', e = (.str l c, .ptr x 0) ∧ go x n = some q ∧ cpKids go r q.nx (a + 1) = some (ks', m) ∧ ks = ⟨a, l, c, x, n, q⟩ :: ks' := by
  obtain ⟨e1, e2⟩ := e
  unfold cpKids at h
  dsimp only at h
  split at h
  · rename_i l c x
    cases hg : go x n with
    | none => rw [hg] at h; cases h
    | some q =>
      rw [hg] at h
      dsimp only at h
      cases hk : cpKids go r q.nx (a + 1) with
      | none => rw [hk] at h; cases h
      | some p =>
        obtain ⟨ks', m'⟩ := p
        rw [hk] at h
        have h : some (_ :: ks', m') = some (ks, m) := h
        injection h with h
        injection h with h1 h2
        subst h1; subst h2
        exact ⟨l, c, x, q, ks', rfl, hg, hk, rfl⟩
  · cases h
theorem cpKids_spec {go : Key → Nat → Option CpR} (hgo : ∀ x n q, go x n = some q → n < q.nx) : ∀ {es : List (AV × AV)} {n a : Nat} {ks : List Kid} {m : Nat}, cpKids go es n a = some (ks, m) →
    n ≤ m ∧ ks.length = es.length ∧ (∀ k ∈ ks, go k.x k.n = some k.r ∧ n ≤ k.n ∧ k.r.nx ≤ m ∧ a ≤ k.a ∧ k.a < a + es.length) ∧ stampN es a = ks.map (fun k => (k.nm, .ptr k.x 0, keyN k.a)) ∧
      ks.Pairwise (fun k k' => k.r.nx ≤ k'.n ∧ k.a < k'.a)
  | [], n, a, ks, m, h => by
    obtain ⟨rfl, rfl⟩ := cpKids_nil h
    exact ⟨Nat.le_refl _, rfl, (fun k hk => by cases hk), rfl, .nil⟩
  | e :: r, n, a, ks, m, h => by
    obtain ⟨l, c, x, q, ks', rfl, hq, hk, rfl⟩ := cpKids_cons h
    obtain ⟨h1, h2, h3, h4, h5⟩ := cpKids_spec hgo hk
    have hn := hgo x n q hq
    refine ⟨by omega, by simp [h2], fun k hk => ?_, ?_, ?_⟩
    · simp only [List.length_cons]
      cases hk with
      | head => exact ⟨hq, Nat.le_refl _, h1, Nat.le_refl _, by dsimp only; omega⟩
      | tail _ hk => obtain ⟨a1, a2, a3, a4, a5⟩ := h3 k hk; exact ⟨a1, by omega, a3, by omega, by omega⟩
    · show (_, _, keyN a) :: stampN r (a + 1) = _
      rw [h4]; rfl
    · exact .cons (fun k hk => by obtain ⟨_, a2, _, a4, _⟩ := h3 k hk; exact ⟨a2, by dsimp only; omega⟩) h5
theorem cpMk_some {tn : Nat} {x K : Key} {n len : Nat} {kd md dt : AV} {p : Option (List Kid × Nat)} {r : CpR} (h : cpMk tn x K n len kd md dt p = some r) : ∃ ks m, p = some (ks, m) ∧ namesOk ks = true ∧
    r = ⟨deadL (n + 2) (len + 2) ++ (flatL (Kid.objs tn (keyN (n + 1))) ks ++ [(keyN n, .lmap (namesK ks))]), kd, md, dt, (.ptr x 0, .ptr (keyN (n + 1)) 0) :: flatL (fun k => k.r.en) ks, x :: K :: flatL (fun k => k.r.rd) ks, m⟩ := by
  cases p with
  | none => cases h
  | some p =>
    obtain ⟨ks, m⟩ := p
    unfold cpMk at h
    dsimp only at h
    cases hb : namesOk ks with
    | false => rw [hb] at h; cases h
    | true =>
      rw [hb] at h
      have h : some _ = some r := h
      injection h with h
      rw [cat_eq, cat_eq] at h
      exact ⟨ks, m, rfl, hb, h.symm⟩
theorem cpN_some {tn : Nat} {t : RT AObj} {d : Nat} {x : Key} {n : Nat} {r : CpR} (h : cpN tn t (d + 1) x n = some r) : ∃ kd md dt K u0 n0 es ks m, t.get x = some (.cells tn [kd, md, dt, .map K, u0, n0] false 0) ∧ kd.plain = true ∧ md.plain = true ∧ dt.plain = true ∧ t.get K = some (.lmap es) ∧
    cpKids (cpN tn t d) es (n + es.length + 4) (n + 2) = some (ks, m) ∧ namesOk ks = true ∧
    r = ⟨deadL (n + 2) (es.length + 2) ++ (flatL (Kid.objs tn (keyN (n + 1))) ks ++ [(keyN n, .lmap (namesK ks))]), kd, md, dt, (.ptr x 0, .ptr (keyN (n + 1)) 0) :: flatL (fun k => k.r.en) ks, x :: K :: flatL (fun k => k.r.rd) ks, m⟩ := by
  have h : cpOf tn t (cpN tn t d) x n = some r := h
  unfold cpOf at h
  split at h
  · rename_i e kd md dt K u0 n0 hx
    cases hb : and (Nat.beq e tn) (and kd.plain (and md.plain dt.plain)) with
    | false => rw [hb] at h; cases h
    | true =>
      rw [hb] at h
      have h : cpIn tn t (cpN tn t d) x n kd md dt K = some r := h
      simp only [Bool.and_eq_true] at hb
      obtain ⟨b1, b2, b3, b4⟩ := hb
      have b1 := Nat.eq_of_beq_eq_true b1
      subst b1
      unfold cpIn at h
      split at h
      · rename_i es hK
        rw [len_eq] at h
        obtain ⟨ks, m, hp, hn, hr⟩ := cpMk_some h
        exact ⟨kd, md, dt, K, u0, n0, es, ks, m, hx, b2, b3, b4, hK, hp, hn, hr⟩
      · cases h
  · cases h
theorem cpN_lt {tn : Nat} {t : RT AObj} : ∀ {d : Nat} {x : Key} {n : Nat} {r : CpR}, cpN tn t d x n = some r → n + 4 ≤ r.nx
  | 0, _, _, _, h => by cases h
  | d + 1, x, n, r, h => by
    obtain ⟨kd, md, dt, K, u0, n0, es, ks, m, _, _, _, _, _, hk, _, rfl⟩ := cpN_some h
    have := (cpKids_spec (fun x n q hq => by have := cpN_lt hq; omega) hk).1
    show n + 4 ≤ m
    omega
theorem cpN_range {tn : Nat} {t : RT AObj} : ∀ {d : Nat} {x : Key} {n : Nat} {r : CpR}, cpN tn t d x n = some r → ∀ p ∈ r.lo, ∃ q, n ≤ q ∧ q < r.nx ∧ q ≠ n + 1 ∧ p.1 = keyN q
  | 0, _, _, _, h => by cases h
  | d + 1, x, n, r, h => by
    obtain ⟨kd, md, dt, K, u0, n0, es, ks, m, _, _, _, _, _, hk, _, rfl⟩ := cpN_some h
    obtain ⟨h1, h2, h3, _, _⟩ := cpKids_spec (fun x n q hq => by have := cpN_lt hq; omega) hk
    intro p hp
    dsimp only at hp ⊢
    rcases List.mem_append.1 hp with hp | hp
    · obtain ⟨q, a, b, rfl⟩ := deadL_mem hp
      exact ⟨q, by omega, by omega, by omega, rfl⟩
    · rcases List.mem_append.1 hp with hp | hp
      · obtain ⟨k, hk1, hp⟩ := mem_flatL.1 hp
        obtain ⟨g, a, b, _, _⟩ := h3 k hk1
        have hlt := cpN_lt g
        unfold Kid.objs at hp
        rw [cat_eq] at hp
        rcases List.mem_append.1 hp with hp | hp
        · obtain ⟨q, c1, c2, _, e⟩ := cpN_range g p hp
          exact ⟨q, by omega, by omega, by omega, e⟩
        · have : p = (k.y, rootO tn k.r.kd k.r.md k.r.dt k.n (.ptr (keyN (n + 1)) 0) k.nm) := by simpa using hp
          subst this
          exact ⟨k.n + 1, by omega, by omega, by omega, rfl⟩
      · have : p = (keyN n, .lmap (namesK ks)) := by simpa using hp
        subst this
        exact ⟨n, Nat.le_refl _, by omega, by omega, rfl⟩
theorem cpN_read {tn : Nat} {t : RT AObj} : ∀ {d : Nat} {x : Key} {n : Nat} {r : CpR}, cpN tn t d x n = some r → ∀ b ∈ r.rd, ∃ o, t.get b = some o
  | 0, _, _, _, h => by cases h
  | d + 1, x, n, r, h => by
    obtain ⟨kd, md, dt, K, u0, n0, es, ks, m, hx, _, _, _, hK, hk, _, rfl⟩ := cpN_some h
    obtain ⟨_, _, h3, _, _⟩ := cpKids_spec (fun x n q hq => by have := cpN_lt hq; omega) hk
    intro b hb
    dsimp only at hb
    rcases List.mem_cons.1 hb with rfl | hb
    · exact ⟨_, hx⟩
    · rcases List.mem_cons.1 hb with rfl | hb
      · exact ⟨_, hK⟩
      · obtain ⟨k, hk1, hb⟩ := mem_flatL.1 hb
        exact cpN_read (h3 k hk1).1 b hb
theorem cpN_en {tn : Nat} {t : RT AObj} : ∀ {d : Nat} {x : Key} {n : Nat} {r : CpR}, cpN tn t d x n = some r → ∀ e ∈ r.en, ∃ b cs, e.1 = .ptr b 0 ∧ b ∈ r.rd ∧ t.get b = some (.cells tn cs false 0)
  | 0, _, _, _, h => by cases h
  | d + 1, x, n, r, h => by
    obtain ⟨kd, md, dt, K, u0, n0, es, ks, m, hx, _, _, _, hK, hk, _, rfl⟩ := cpN_some h
    obtain ⟨_, _, h3, _, _⟩ := cpKids_spec (fun x n q hq => by have := cpN_lt hq; omega) hk
    intro e he
    dsimp only at he ⊢
    rcases List.mem_cons.1 he with rfl | he
    · exact ⟨x, _, rfl, List.mem_cons_self .., hx⟩
    · obtain ⟨k, hk1, he⟩ := mem_flatL.1 he
      obtain ⟨b, cs, h1, h2, h3⟩ := cpN_en (h3 k hk1).1 e he
      exact ⟨b, cs, h1, List.mem_cons_of_mem _ (List.mem_cons_of_mem _ (mem_flatL.2 ⟨k, hk1, h2⟩)), h3⟩
def rka0_0 : Oper := { dst := some 4, op := Op.assign (Operand.const (Value.pointer none)), type := 324, pos := "tree.go:128", after := #[], guard := none }
def rka0 : List Oper := [rka0_0]
def rka1_0 : Oper := { dst := some 8, op := Op.move (Operand.tmp 0), type := 324, pos := "tree.go:129", after := #[], guard := none }
def rka1_1 : Oper := { dst := some 9, op := Op.nilCheck (Operand.tmp 8), type := 0, pos := "tree.go:129", after := #[{ on := 0, ground := Ground.data }], guard := none }
def rka1_2 : Oper := { dst := some 10, op := Op.fieldAddr 389 (Operand.tmp 9) 0, type := 0, pos := "tree.go:129", after := #[{ on := 1, ground := Ground.data }], guard := none }
def rka1_3 : Oper := { dst := some 11, op := Op.load 3 (Operand.tmp 10), type := 3, pos := "tree.go:129", after := #[{ on := 2, ground := Ground.data }], guard := none }
def rka1_4 : Oper := { dst := some 12, op := Op.move (Operand.tmp 0), type := 324, pos := "tree.go:129", after := #[], guard := none }
def rka1_5 : Oper := { dst := some 13, op := Op.nilCheck (Operand.tmp 12), type := 0, pos := "tree.go:129", after := #[{ on := 4, ground := Ground.data }], guard := none }
def rka1_6 : Oper := { dst := some 14, op := Op.fieldAddr 389 (Operand.tmp 13) 1, type := 0, pos := "tree.go:129", after := #[{ on := 5, ground := Ground.data }], guard := none }
def rka1_7 : Oper := { dst := some 15, op := Op.load 3 (Operand.tmp 14), type := 3, pos := "tree.go:129", after := #[{ on := 6, ground := Ground.data }], guard := none }
def rka1_8 : Oper := { dst := some 16, op := Op.move (Operand.tmp 0), type := 324, pos := "tree.go:129", after := #[], guard := none }
def rka1_9 : Oper := { dst := some 17, op := Op.nilCheck (Operand.tmp 16), type := 0, pos := "tree.go:129", after := #[{ on := 8, ground := Ground.data }], guard := none }
def rka1_10 : Oper := { dst := some 18, op := Op.fieldAddr 389 (Operand.tmp 17) 2, type := 0, pos := "tree.go:129", after := #[{ on := 9, ground := Ground.data }], guard := none }
def rka1_11 : Oper := { dst := some 19, op := Op.load 9 (Operand.tmp 18), type := 9, pos := "tree.go:129", after := #[{ on := 10, ground := Ground.data }], guard := none }
def rka1_12 : Oper := { dst := some 20, op := Op.makeMap 387 none, type := 387, pos := "tree.go:129", after := #[], guard := none }
def rka1_13 : Oper := { dst := some 21, op := Op.build 389 #[(0, Operand.tmp 11), (1, Operand.tmp 15), (2, Operand.tmp 19), (3, Operand.tmp 20)], type := 389, pos := "tree.go:129", after := #[{ on := 3, ground := Ground.data }, { on := 7, ground := Ground.data }, { on := 11, ground := Ground.data }, { on := 12, ground := Ground.data }], guard := none }
def rka1_14 : Oper := { dst := some 22, op := Op.box 389 (Operand.tmp 21), type := 324, pos := "tree.go:129", after := #[{ on := 13, ground := Ground.data }], guard := none }
def rka1_15 : Oper := { dst := some 5, op := Op.assign (Operand.tmp 22), type := 324, pos := "tree.go:129", after := #[{ on := 14, ground := Ground.data }, { on := 0, ground := Ground.phase }, { on := 1, ground := Ground.phase }, { on := 2, ground := Ground.phase }, { on := 3, ground := Ground.phase }, { on := 4, ground := Ground.phase }, { on := 5, ground := Ground.phase }, { on := 6, ground := Ground.phase }, { on := 7, ground := Ground.phase }, { on := 8, ground := Ground.phase }, { on := 9, ground := Ground.phase }, { on := 10, ground := Ground.phase }, { on := 11, ground := Ground.phase }, { on := 12, ground := Ground.phase }, { on := 13, ground := Ground.phase }, { on := 14, ground := Ground.phase }], guard := none }
def rka1 : List Oper := [rka1_0, rka1_1, rka1_2, rka1_3, rka1_4, rka1_5, rka1_6, rka1_7, rka1_8, rka1_9, rka1_10, rka1_11, rka1_12, rka1_13, rka1_14, rka1_15]
def rka2_0 : Oper := { dst := some 23, op := Op.move (Operand.tmp 1), type := 323, pos := "tree.go:130", after := #[], guard := none }
def rka2_1 : Oper := { dst := some 24, op := Op.move (Operand.tmp 0), type := 324, pos := "tree.go:130", after := #[], guard := none }
def rka2_2 : Oper := { dst := some 25, op := Op.move (Operand.tmp 5), type := 324, pos := "tree.go:130", after := #[], guard := none }
def rka2_3 : Oper := { dst := none, op := Op.mapUpdate 323 (Operand.tmp 23) (Operand.tmp 24) (Operand.tmp 25), type := 0, pos := "tree.go:130", after := #[{ on := 0, ground := Ground.data }, { on := 1, ground := Ground.data }, { on := 2, ground := Ground.data }, { on := 0, ground := Ground.phase }, { on := 1, ground := Ground.phase }, { on := 2, ground := Ground.phase }], guard := none }
def rka2 : List Oper := [rka2_0, rka2_1, rka2_2, rka2_3]
def rka3_0 : Oper := { dst := some 26, op := Op.move (Operand.tmp 0), type := 324, pos := "tree.go:131", after := #[], guard := none }
def rka3_1 : Oper := { dst := some 27, op := Op.nilCheck (Operand.tmp 26), type := 0, pos := "tree.go:131", after := #[{ on := 0, ground := Ground.data }], guard := none }
def rka3_2 : Oper := { dst := some 28, op := Op.fieldAddr 389 (Operand.tmp 27) 3, type := 0, pos := "tree.go:131", after := #[{ on := 1, ground := Ground.data }], guard := none }
def rka3_3 : Oper := { dst := some 29, op := Op.load 387 (Operand.tmp 28), type := 387, pos := "tree.go:131", after := #[{ on := 2, ground := Ground.data }], guard := none }
def rka3_4 : Oper := { dst := some 30, op := Op.range 387 (Operand.tmp 29), type := 0, pos := "tree.go:131", after := #[{ on := 3, ground := Ground.data }], guard := none }
def rka3 : List Oper := [rka3_0, rka3_1, rka3_2, rka3_3, rka3_4]
def rka4_0 : Oper := { dst := some 31, op := Op.next (Operand.tmp 30) false, type := 0, pos := "tree.go:131", after := #[], guard := none }
def rka4_1 : Oper := { dst := some 32, op := Op.extract (Operand.tmp 31) 0, type := 4, pos := "tree.go:131", after := #[{ on := 0, ground := Ground.data }], guard := none }
def rka4 : List Oper := [rka4_0, rka4_1]
def rka5_0 : Oper := { dst := some 33, op := Op.entry (Operand.tmp 30), type := 0, pos := "tree.go:131", after := #[], guard := none }
def rka5_1 : Oper := { dst := some 34, op := Op.extract (Operand.tmp 33) 0, type := 9, pos := "tree.go:131", after := #[{ on := 0, ground := Ground.data }], guard := none }
def rka5_2 : Oper := { dst := some 35, op := Op.extract (Operand.tmp 33) 1, type := 324, pos := "tree.go:131", after := #[{ on := 0, ground := Ground.data }, { on := 3, ground := Ground.gcOnly Departure.lateStores }], guard := none }
def rka5_3 : Oper := { dst := some 6, op := Op.assign (Operand.tmp 34), type := 9, pos := "tree.go:131", after := #[{ on := 1, ground := Ground.data }, { on := 0, ground := Ground.phase }, { on := 1, ground := Ground.phase }, { on := 2, ground := Ground.textOnly Departure.lateStores }], guard := none }
def rka5_4 : Oper := { dst := some 7, op := Op.assign (Operand.tmp 35), type := 324, pos := "tree.go:131", after := #[{ on := 2, ground := Ground.data }, { on := 3, ground := Ground.chain }, { on := 0, ground := Ground.phase }, { on := 1, ground := Ground.phase }, { on := 2, ground := Ground.phase }, { on := 3, ground := Ground.phase }], guard := none }
def rka5 : List Oper := [rka5_0, rka5_1, rka5_2, rka5_3, rka5_4]
def rka6_0 : Oper := { dst := some 36, op := Op.move (Operand.tmp 5), type := 324, pos := "tree.go:132", after := #[], guard := none }
def rka6_1 : Oper := { dst := some 37, op := Op.move (Operand.tmp 6), type := 9, pos := "tree.go:132", after := #[], guard := none }
def rka6_2 : Oper := { dst := some 38, op := Op.move (Operand.tmp 7), type := 324, pos := "tree.go:132", after := #[], guard := none }
def rka6_3 : Oper := { dst := some 39, op := Op.move (Operand.tmp 1), type := 323, pos := "tree.go:132", after := #[], guard := none }
def rka6_4 : Oper := { dst := some 40, op := Op.call { callee := Callee.value (Operand.func 208), args := #[Operand.tmp 38, Operand.tmp 39], argTypes := #[324, 323] }, type := 324, pos := "tree.go:132", after := #[{ on := 2, ground := Ground.data }, { on := 3, ground := Ground.data }], guard := none }
def rka6_5 : Oper := { dst := some 41, op := Op.call { callee := Callee.value (Operand.func 279), args := #[Operand.tmp 36, Operand.tmp 37, Operand.tmp 40], argTypes := #[324, 9, 324] }, type := 324, pos := "tree.go:132", after := #[{ on := 0, ground := Ground.data }, { on := 1, ground := Ground.data }, { on := 4, ground := Ground.data }, { on := 4, ground := Ground.chain }], guard := none }
def rka6 : List Oper := [rka6_0, rka6_1, rka6_2, rka6_3, rka6_4, rka6_5]
def rka7_0 : Oper := { dst := some 42, op := Op.move (Operand.tmp 5), type := 324, pos := "tree.go:134", after := #[], guard := none }
def rka7_1 : Oper := { dst := some 4, op := Op.assign (Operand.tmp 42), type := 324, pos := "tree.go:134", after := #[{ on := 0, ground := Ground.data }, { on := 0, ground := Ground.phase }], guard := none }
def rka7 : List Oper := [rka7_0, rka7_1]
def c208 : Code := ((Code.region 0 ⟨rka0⟩ false).seq ((Code.region 1 ⟨rka1⟩ true).seq ((Code.region 2 ⟨rka2⟩ false).seq (((Code.region 3 ⟨rka3⟩ false).seq (Code.block 0 ((Code.region 4 ⟨rka4⟩ false).seq ((Code.cond (Operand.tmp 32) Code.skip (Code.exit 0)).seq (Code.block 1 ((Code.region 5 ⟨rka5⟩ false).seq (Code.region 6 ⟨rka6⟩ false))))).loop)).seq ((Code.region 7 ⟨rka7⟩ false).seq Code.ret)))))
def rkb0_0 : Oper := { dst := some 6, op := Op.assign (Operand.const (Value.pointer none)), type := 324, pos := "tree.go:50", after := #[], guard := none }
def rkb0 : List Oper := [rkb0_0]
def rkb1_0 : Oper := { dst := some 7, op := Op.move (Operand.tmp 2), type := 324, pos := "tree.go:51", after := #[], guard := none }
def rkb1_1 : Oper := { dst := some 8, op := Op.move (Operand.tmp 2), type := 324, pos := "tree.go:51", after := #[{ on := 6, ground := Ground.gcOnly Departure.lateStores }], guard := none }
def rkb1_2 : Oper := { dst := some 9, op := Op.move (Operand.tmp 0), type := 324, pos := "tree.go:51", after := #[], guard := none }
def rkb1_3 : Oper := { dst := some 10, op := Op.move (Operand.tmp 1), type := 9, pos := "tree.go:51", after := #[{ on := 6, ground := Ground.gcOnly Departure.lateStores }], guard := none }
def rkb1_4 : Oper := { dst := some 11, op := Op.nilCheck (Operand.tmp 7), type := 0, pos := "tree.go:51", after := #[{ on := 0, ground := Ground.data }, { on := 0, ground := Ground.phase }, { on := 1, ground := Ground.textOnly Departure.lateStores }, { on := 2, ground := Ground.phase }, { on := 3, ground := Ground.textOnly Departure.lateStores }], guard := none }
def rkb1_5 : Oper := { dst := some 12, op := Op.fieldAddr 389 (Operand.tmp 11) 4, type := 0, pos := "tree.go:51", after := #[{ on := 4, ground := Ground.data }, { on := 0, ground := Ground.phase }, { on := 1, ground := Ground.textOnly Departure.lateStores }, { on := 2, ground := Ground.phase }, { on := 3, ground := Ground.textOnly Departure.lateStores }], guard := none }
def rkb1_6 : Oper := { dst := none, op := Op.store 324 (Operand.tmp 12) (Operand.tmp 9), type := 0, pos := "tree.go:51", after := #[{ on := 5, ground := Ground.data }, { on := 2, ground := Ground.data }, { on := 0, ground := Ground.phase }, { on := 1, ground := Ground.textOnly Departure.lateStores }, { on := 2, ground := Ground.phase }, { on := 3, ground := Ground.textOnly Departure.lateStores }], guard := none }
def rkb1_7 : Oper := { dst := some 13, op := Op.nilCheck (Operand.tmp 8), type := 0, pos := "tree.go:51", after := #[{ on := 1, ground := Ground.data }, { on := 0, ground := Ground.phase }, { on := 1, ground := Ground.phase }, { on := 2, ground := Ground.phase }, { on := 3, ground := Ground.phase }, { on := 4, ground := Ground.phase }, { on := 5, ground := Ground.phase }, { on := 6, ground := Ground.phase }], guard := none }
def rkb1_8 : Oper := { dst := some 14, op := Op.fieldAddr 389 (Operand.tmp 13) 5, type := 0, pos := "tree.go:51", after := #[{ on := 7, ground := Ground.data }, { on := 0, ground := Ground.phase }, { on := 1, ground := Ground.phase }, { on := 2, ground := Ground.phase }, { on := 3, ground := Ground.phase }, { on := 4, ground := Ground.phase }, { on := 5, ground := Ground.phase }, { on := 6, ground := Ground.phase }], guard := none }
def rkb1_9 : Oper := { dst := none, op := Op.store 9 (Operand.tmp 14) (Operand.tmp 10), type := 0, pos := "tree.go:51", after := #[{ on := 8, ground := Ground.data }, { on := 3, ground := Ground.data }, { on := 6, ground := Ground.chain }, { on := 0, ground := Ground.phase }, { on := 1, ground := Ground.phase }, { on := 2, ground := Ground.phase }, { on := 3, ground := Ground.phase }, { on := 4, ground := Ground.phase }, { on := 5, ground := Ground.phase }, { on := 6, ground := Ground.phase }], guard := none }
def rkb1 : List Oper := [rkb1_0, rkb1_1, rkb1_2, rkb1_3, rkb1_4, rkb1_5, rkb1_6, rkb1_7, rkb1_8, rkb1_9]
def rkb2_0 : Oper := { dst := some 15, op := Op.move (Operand.tmp 0), type := 324, pos := "tree.go:52", after := #[], guard := none }
def rkb2_1 : Oper := { dst := some 16, op := Op.nilCheck (Operand.tmp 15), type := 0, pos := "tree.go:52", after := #[{ on := 0, ground := Ground.data }], guard := none }
def rkb2_2 : Oper := { dst := some 17, op := Op.fieldAddr 389 (Operand.tmp 16) 3, type := 0, pos := "tree.go:52", after := #[{ on := 1, ground := Ground.data }], guard := none }
def rkb2_3 : Oper := { dst := some 18, op := Op.load 387 (Operand.tmp 17), type := 387, pos := "tree.go:52", after := #[{ on := 2, ground := Ground.data }], guard := none }
def rkb2_4 : Oper := { dst := some 19, op := Op.move (Operand.tmp 1), type := 9, pos := "tree.go:52", after := #[], guard := none }
def rkb2_5 : Oper := { dst := some 20, op := Op.move (Operand.tmp 2), type := 324, pos := "tree.go:52", after := #[], guard := none }
def rkb2_6 : Oper := { dst := none, op := Op.mapUpdate 387 (Operand.tmp 18) (Operand.tmp 19) (Operand.tmp 20), type := 0, pos := "tree.go:52", after := #[{ on := 3, ground := Ground.data }, { on := 4, ground := Ground.data }, { on := 5, ground := Ground.data }, { on := 0, ground := Ground.phase }, { on := 1, ground := Ground.phase }, { on := 2, ground := Ground.phase }, { on := 3, ground := Ground.phase }, { on := 4, ground := Ground.phase }, { on := 5, ground := Ground.phase }], guard := none }
def rkb2 : List Oper := [rkb2_0, rkb2_1, rkb2_2, rkb2_3, rkb2_4, rkb2_5, rkb2_6]
def rkb3_0 : Oper := { dst := some 21, op := Op.move (Operand.tmp 2), type := 324, pos := "tree.go:53", after := #[], guard := none }
def rkb3_1 : Oper := { dst := some 6, op := Op.assign (Operand.tmp 21), type := 324, pos := "tree.go:53", after := #[{ on := 0, ground := Ground.data }, { on := 0, ground := Ground.phase }], guard := none }
def rkb3 : List Oper := [rkb3_0, rkb3_1]
def c279 : Code := ((Code.region 0 ⟨rkb0⟩ false).seq ((Code.region 1 ⟨rkb1⟩ false).seq ((Code.region 2 ⟨rkb2⟩ false).seq ((Code.region 3 ⟨rkb3⟩ false).seq Code.ret))))
def plan1 : List PStep := [.op 12, .op 0, .op 1, .op 2, .op 3, .op 4, .op 5, .op 6, .op 7, .op 8, .op 9, .op 10, .op 11, .op 13, .op 14, .chk 0, .chk 1, .chk 2, .chk 3, .chk 4, .chk 5, .chk 6, .chk 7, .chk 8, .chk 9, .chk 10, .chk 11, .chk 13, .op 15]
structure CpFacts (P : Program) : Prop where
  b1 : bodyOf P 208 = some c208
  b2 : bodyOf P 279 = some c279
  n1 : ntmpsOf P 208 = 43
  n2 : ntmpsOf P 279 = 22
  r1 : resultsOf P 208 = [.tmp 4]
  r2 : resultsOf P 279 = [.tmp 6]
  pl : planOf P rka1 = some plan1
  f0 : okField P 389 0 = true ∧ offOf P 389 0 = 0
  f1 : okField P 389 1 = true ∧ offOf P 389 1 = 1
  f2 : okField P 389 2 = true ∧ offOf P 389 2 = 2
  f3 : okField P 389 3 = true ∧ offOf P 389 3 = 3
  f4 : okField P 389 4 = true ∧ offOf P 389 4 = 4
  f5 : okField P 389 5 = true ∧ offOf P 389 5 = 5
  t3 : isAggT P 3 = false ∧ known P 3 = true
  t9 : isAggT P 9 = false ∧ known P 9 = true ∧ szOf P 9 = 1
  t387 : isAggT P 387 = false ∧ known P 387 = true
  t324 : known P 324 = true ∧ szOf P 324 = 1
  u323 : P.underlying 323 = some (.map 324 324)
  u387 : P.underlying 387 = some (.map 9 324)
  u324 : P.underlying 324 = some (.pointer 389)
  u9 : P.underlying 9 = some .string
  k324 : keyT P 324 = true
  k9 : keyT P 9 = true
  z389 : Nat.beq (szOf P 389) 0 = false
  m387 : isMapT P 387 = true
  bld : ∀ kd md dt K h, kd.plain = true → md.plain = true → dt.plain = true → xBuild P 389 [(0, kd), (1, md), (2, dt), (3, .map K)] h = .val (.agg [kd, md, dt, .map K, .nilPtr, .str 0 0]) h
section
variable {P : Program} {w0 : Base} {f0 : Nat} {CS0 : List Frame} [H : Hook] {post : AV → Heap → Bool}
theorem go_reg {n : Nat} {ops : List Oper} {b : Code} {T : Slots} {k : List AItem} {c : Ctx} {h : Heap} : stepGo P T (.code (.seq (.region n ⟨ops⟩ false) b) :: k) c h = stepOps P ops (.code b :: k) c ops T h := rfl
theorem go_reg1 {n : Nat} {ops : List Oper} {T : Slots} {k : List AItem} {c : Ctx} {h : Heap} : stepGo P T (.code (.region n ⟨ops⟩ false) :: k) c h = stepOps P ops k c ops T h := rfl
theorem go_draw {n : Nat} {ops : List Oper} {b : Code} {T : Slots} {k : List AItem} {c : Ctx} {h : Heap} : stepGo P T (.code (.seq (.region n ⟨ops⟩ true) b) :: k) c h = goPlan P (planOf P ops) ops T (.code b :: k) c h := rfl
theorem Well.reg (hX : Env P w0) (hF : P.follows .mixedOrders = true) {n : Nat} {ops : List Oper} {b : Code} {T : Slots} {k : List AItem} {c : Ctx} {h : Heap} (g : Well P w0 f0 CS0 post (stepOps P ops (.code b :: k) c ops T h)) : Well P w0 f0 CS0 post (.go T (.code (.seq (.region n ⟨ops⟩ false) b) :: k) c h) := Well.go hX hF (by rw [go_reg]; exact g)
theorem Well.reg1 (hX : Env P w0) (hF : P.follows .mixedOrders = true) {n : Nat} {ops : List Oper} {T : Slots} {k : List AItem} {c : Ctx} {h : Heap} (g : Well P w0 f0 CS0 post (stepOps P ops k c ops T h)) : Well P w0 f0 CS0 post (.go T (.code (.region n ⟨ops⟩ false) :: k) c h) := Well.go hX hF (by rw [go_reg1]; exact g)
theorem Well.draw (hX : Env P w0) (hF : P.follows .mixedOrders = true) {n : Nat} {ops : List Oper} {pl : List PStep} {b : Code} {T : Slots} {k : List AItem} {c : Ctx} {h : Heap} (hp : planOf P ops = some pl) (g : Well P w0 f0 CS0 post (stepPlan P ops (.code b :: k) c pl T h)) : Well P w0 f0 CS0 post (.go T (.code (.seq (.region n ⟨ops⟩ true) b) :: k) c h) := Well.go hX hF (by rw [go_draw, hp]; exact g)
omit H in
theorem ops_end [Hook] {all : List Oper} {k : List AItem} {c : Ctx} {T : Slots} {h : Heap} (g : Well P w0 f0 CS0 post (.go T k c h)) : Well P w0 f0 CS0 post (stepOps P all k c [] T h) := g
omit H in
theorem plan_end [Hook] {all : List Oper} {k : List AItem} {c : Ctx} {T : Slots} {h : Heap} (g : Well P w0 f0 CS0 post (.go T k c h)) : Well P w0 f0 CS0 post (stepPlan P all k c [] T h) := g
theorem ret_good (hX : Env P w0) (hF : P.follows .mixedOrders = true) {f s : Nat} {T : Slots} {h : Heap} {v : AV} {cs : List AFrame} (hr : resultsOf P f = [.tmp s]) (hs : T.get s = v) (g : Well P w0 f0 CS0 post (retTo v .normal cs h)) : Well P w0 f0 CS0 post (.go T [.code .ret] (.mk f [] .normal cs) h) := by
  refine Well.go hX hF ?_
  show Well P w0 f0 CS0 post (.un .returning T (.mk f [] .normal cs) h)
  refine Well.un ?_
  show Well P w0 f0 CS0 post (unRet P T f .normal cs h)
  unfold unRet
  rw [hr]
  show Well P w0 f0 CS0 post (retTo (T.get s) .normal cs h)
  rw [hs]; exact g
set_option maxHeartbeats 2000000 in
theorem add_good (C : CpFacts P) (hX : Env P w0) (hF : P.follows .mixedOrders = true) {Y N KY : Key} {kd md dt uY nY a0 a1 a2 a3 a4 a5 : AV} {cs : List AFrame} {h : Heap} {l c : Nat} {es : List (AV × AV)}
    (gY : h.get Y = some (.cells 389 [kd, md, dt, .map KY, uY, nY] false 0)) (gN : h.get N = some (.cells 389 [a0, a1, a2, a3, a4, a5] false 0)) (gK : h.get KY = some (.lmap es)) (hYN : Y ≠ N)
    (hes : ∀ h : Heap, ∀ e ∈ es, eqT P h 9 (.str l c) e.1 = some false)
    (g : ∀ h' : Heap, (∀ b, h'.get b = if KY = b then some (.lmap (es ++ [(.str l c, .ptr N 0)])) else if N = b then some (.cells 389 [a0, a1, a2, a3, .ptr Y 0, .str l c] false 0) else h.get b) → Well P w0 f0 CS0 post (retTo (.ptr N 0) .normal cs h')) :
    Well P w0 f0 CS0 post (enter P 279 [.ptr Y 0, .str l c, .ptr N 0] .normal cs h c279) := by
  have hKN : KY ≠ N := fun e => by rw [e, gN] at gK; cases gK
  unfold enter
  rw [C.n2]
  show Well P w0 f0 CS0 post (.go (.mk 22 (setSlots [.ptr Y 0, .str l c, .ptr N 0] .nil 0)) [.code c279] (.mk 279 [] .normal cs) h)
  obtain ⟨T, hT⟩ : ∃ T, T = Slots.mk 22 (setSlots [.ptr Y 0, .str l c, .ptr N 0] .nil 0) := ⟨_, rfl⟩
  have hn : T.n = 22 := by rw [hT]
  have h0 : T.get 0 = .ptr Y 0 := by rw [hT]; rfl
  have h1 : T.get 1 = .str l c := by rw [hT]; rfl
  have h2 : T.get 2 = .ptr N 0 := by rw [hT]; rfl
  rw [← hT]
  clear hT
  refine Well.reg hX hF ?_
  refine good_val rfl rfl (x_assign (v := .nilPtr) rfl) (by simp [hn]) (ops_end (Well.reg hX hF ?_))
  refine good_val rfl rfl (x_move (v := .ptr N 0) (by simp [ev_tmp, sset_get, h2])) (by simp [sset_n, hn]) ?_
  refine good_val rfl rfl (x_move (v := .ptr N 0) (by simp [ev_tmp, sset_get, h2])) (by simp [sset_n, hn]) ?_
  refine good_val rfl rfl (x_move (v := .ptr Y 0) (by simp [ev_tmp, sset_get, h0])) (by simp [sset_n, hn]) ?_
  refine good_val rfl rfl (x_move (v := .str l c) (by simp [ev_tmp, sset_get, h1])) (by simp [sset_n, hn]) ?_
  refine good_val rfl rfl (x_nil (b := N) (o := 0) (by simp [ev_tmp, sset_get])) (by simp [sset_n, hn]) ?_
  refine good_val rfl rfl (x_faddr (b := N) (o := 0) (q := 4) (by simp [ev_tmp, sset_get]) C.f4.1 (by rw [C.f4.2])) (by simp [sset_n, hn]) ?_
  refine good_unit rfl rfl (x_store (b := N) (o := 4) (v := .ptr Y 0) (by simp [ev_tmp, sset_get]) (by simp [ev_tmp, sset_get]) C.t324.1 C.t324.2 gN rfl rfl rfl) ?_
  refine good_val rfl rfl (x_nil (b := N) (o := 0) (by simp [ev_tmp, sset_get])) (by simp [sset_n, hn]) ?_
  refine good_val rfl rfl (x_faddr (b := N) (o := 0) (q := 5) (by simp [ev_tmp, sset_get]) C.f5.1 (by rw [C.f5.2])) (by simp [sset_n, hn]) ?_
  refine good_unit rfl rfl (x_store (b := N) (o := 5) (v := .str l c) (by simp [ev_tmp, sset_get]) (by simp [ev_tmp, sset_get]) C.t9.2.1 C.t9.2.2 (by rw [put_get, if_pos rfl]) rfl rfl rfl) (ops_end ?_)
  obtain ⟨h3, e3⟩ : ∃ h3, h3 = (h.put N (.cells 389 (splice [a0, a1, a2, a3, a4, a5] 4 [.ptr Y 0]) false 0)).put N (.cells 389 (splice (splice [a0, a1, a2, a3, a4, a5] 4 [.ptr Y 0]) 5 [.str l c]) false 0) := ⟨_, rfl⟩
  have g3 : ∀ b, h3.get b = if N = b then some (.cells 389 [a0, a1, a2, a3, .ptr Y 0, .str l c] false 0) else h.get b := fun b => by
    rw [e3, put_get]
    by_cases e : N = b
    · rw [if_pos e, if_pos e]; rfl
    · rw [if_neg e, if_neg e, put_get, if_neg e]
  rw [← e3]
  refine Well.reg hX hF ?_
  refine good_val rfl rfl (x_move (v := .ptr Y 0) (by simp [ev_tmp, sset_get, h0])) (by simp [sset_n, hn]) ?_
  refine good_val rfl rfl (x_nil (b := Y) (o := 0) (by simp [ev_tmp, sset_get])) (by simp [sset_n, hn]) ?_
  refine good_val rfl rfl (x_faddr (b := Y) (o := 0) (q := 3) (by simp [ev_tmp, sset_get]) C.f3.1 (by rw [C.f3.2])) (by simp [sset_n, hn]) ?_
  refine good_val rfl rfl (x_load (b := Y) (o := 3) (v := .map KY) (by simp [ev_tmp, sset_get]) C.t387.1 C.t387.2 (by rw [g3, if_neg (fun e => hYN e.symm)]; exact gY) rfl) (by simp [sset_n, hn]) ?_
  refine good_val rfl rfl (x_move (v := .str l c) (by simp [ev_tmp, sset_get, h1])) (by simp [sset_n, hn]) ?_
  refine good_val rfl rfl (x_move (v := .ptr N 0) (by simp [ev_tmp, sset_get, h2])) (by simp [sset_n, hn]) ?_
  refine good_unit rfl rfl (x_mapUpd (b := KY) (k' := .str l c) (v' := .ptr N 0) (by simp [ev_tmp, sset_get]) (by simp [ev_tmp, sset_get]) (by simp [ev_tmp, sset_get]) C.u387 C.k9 (by rw [g3, if_neg (fun e => hKN e.symm)]; exact gK) (setL_new (hes h3))) (ops_end ?_)
  obtain ⟨h4, e4⟩ : ∃ h4, h4 = h3.put KY (.lmap (es ++ [(.str l c, .ptr N 0)])) := ⟨_, rfl⟩
  rw [← e4]
  refine Well.reg hX hF ?_
  refine good_val rfl rfl (x_move (v := .ptr N 0) (by simp [ev_tmp, sset_get, h2])) (by simp [sset_n, hn]) ?_
  refine good_val rfl rfl (x_assign (v := .ptr N 0) (by simp [ev_tmp, sset_get])) (by simp [sset_n, hn]) (ops_end ?_)
  exact ret_good hX hF C.r2 (by simp [sset_get]) (g h4 fun b => by
    rw [e4, put_get]
    by_cases e : KY = b
    · rw [if_pos e, if_pos e]
    · rw [if_neg e, if_neg e, g3])
end
def cX : Code := (Code.region 4 ⟨rka4⟩ false).seq ((Code.cond (Operand.tmp 32) Code.skip (Code.exit 0)).seq (Code.block 1 ((Code.region 5 ⟨rka5⟩ false).seq (Code.region 6 ⟨rka6⟩ false))))
def kEnd : List AItem := [.code ((Code.region 7 ⟨rka7⟩ false).seq Code.ret)]
def kTop : List AItem := .code cX :: .inLoop cX :: .inBlock 0 :: kEnd
theorem beqA_pl {v : AV} (h : v.plain = true) : beqA 60 v v = true := by
  unfold AV.plain at h
  split at h
  · show and _ _ = true; simp
  · rename_i k n; show and (Nat.beq (kindNo k) (kindNo k)) (intEq n n) = true; rw [(intEq_iff n n).2 rfl]; simp
  · rename_i b; cases b <;> rfl
  · cases h
theorem beqA_ptr (b : Key) (o : Nat) : beqA 60 (.ptr b o) (.ptr b o) = true := by show and (Key.same b b) (Nat.beq o o) = true; rw [(Key.same_iff b b).2 rfl]; simp
theorem beqA_lt : ∀ {v : AV}, v.plain = true → beqA 59 v v = true := by
  intro v h
  unfold AV.plain at h
  split at h
  · show and _ _ = true; simp
  · rename_i k n; show and (Nat.beq (kindNo k) (kindNo k)) (intEq n n) = true; rw [(intEq_iff n n).2 rfl]; simp
  · rename_i b; cases b <;> rfl
  · cases h
section
variable {P : Program} {w0 : Base} {f0 : Nat} {CS0 : List Frame} [H : Hook] {post : AV → Heap → Bool}
omit H in
theorem enter_heap {f : Nat} {args : List AV} {cs : List AFrame} {h h' : Heap} {c : Code} (he : ∀ b, h'.get b = h.get b) (g : Well P w0 f0 CS0 post (enter P f args .normal cs h' c)) : Well P w0 f0 CS0 post (enter P f args .normal cs h c) := by
  unfold enter at g ⊢
  cases hb : Nat.ble (len args) (ntmpsOf P f) with
  | false => rw [hb] at g; exact g
  | true =>
    rw [hb] at g
    exact Well.heap rfl he g
theorem go_reg2 {n : Nat} {ops : List Oper} {b b2 : Code} {T : Slots} {k : List AItem} {c : Ctx} {h : Heap} : stepGo P T (.code (.seq (.seq (.region n ⟨ops⟩ false) b) b2) :: k) c h = stepOps P ops (.code b :: .code b2 :: k) c ops T h := rfl
theorem Well.reg2 (hX : Env P w0) (hF : P.follows .mixedOrders = true) {n : Nat} {ops : List Oper} {b b2 : Code} {T : Slots} {k : List AItem} {c : Ctx} {h : Heap} (g : Well P w0 f0 CS0 post (stepOps P ops (.code b :: .code b2 :: k) c ops T h)) : Well P w0 f0 CS0 post (.go T (.code (.seq (.seq (.region n ⟨ops⟩ false) b) b2) :: k) c h) := Well.go hX hF (by rw [go_reg2]; exact g)
set_option maxHeartbeats 2000000 in
theorem pre_good (C : CpFacts P) (hX : Env P w0) (hF : P.follows .mixedOrders = true) {x K M : Key} {kd md dt u0 n0 : AV} {cs : List AFrame} {h : Heap} {n : Nat} {es os : List (AV × AV)} (hnx : h.next = keyN n) (hlt : n + es.length + 4 < 32768)
    (gx : h.get x = some (.cells 389 [kd, md, dt, .map K, u0, n0] false 0)) (pk : kd.plain = true) (pm : md.plain = true) (pd : dt.plain = true) (gK : h.get K = some (.lmap es)) (gM : h.get M = some (.lmap os)) (hMx : M ≠ x) (hMK : M ≠ K) 
    (hos : ∀ e ∈ os, ∃ b cs, e.1 = .ptr b 0 ∧ b ≠ x ∧ h.get b = some (.cells 389 cs false 0)) (hfr : ∀ q, n ≤ q → q < n + es.length + 4 → h.get (keyN q) = none)
    (g : ∀ (T : Slots) (h' : Heap), T.n = 43 → T.get 1 = .map M → T.get 5 = .ptr (keyN (n + 1)) 0 → T.get 20 = .map (keyN n) → T.get 29 = .map K → T.get 30 = .ptr (keyN (n + es.length + 3)) 0 →
      h'.get (keyN n) = some (.lmap []) → h'.get (keyN (n + 1)) = some (rootO 389 kd md dt n .nilPtr (.str 0 0)) → h'.get (keyN (n + es.length + 3)) = some (.smiter K (keysS (stampN es (n + 2))) [] (keyN (n + es.length + 2))) →
      h'.get K = some (.smap (stampN es (n + 2)) (keyN (n + es.length + 2))) → h'.get M = some (.lmap (os ++ [(.ptr x 0, .ptr (keyN (n + 1)) 0)])) → (∀ q, n + 2 ≤ q → q < n + es.length + 3 → h'.get (keyN q) = some .dead) →
      (∀ b, b ≠ K → b ≠ M → (∀ q, n ≤ q → q < n + es.length + 4 → keyN q ≠ b) → h'.get b = h.get b) → Well P w0 f0 CS0 post (.go T kTop (.mk 208 [] .normal cs) h')) :
    Well P w0 f0 CS0 post (enter P 208 [.ptr x 0, .map M] .normal cs h c208) := by
  have nx : ∀ q, n ≤ q → q < n + es.length + 4 → keyN q ≠ x := fun q a b e => by rw [← e, hfr q a b] at gx; cases gx
  have nK : ∀ q, n ≤ q → q < n + es.length + 4 → keyN q ≠ K := fun q a b e => by rw [← e, hfr q a b] at gK; cases gK
  have nM : ∀ q, n ≤ q → q < n + es.length + 4 → keyN q ≠ M := fun q a b e => by rw [← e, hfr q a b] at gM; cases gM
  have inj : ∀ {p q : Nat}, p < 32768 → q < 32768 → p ≠ q → keyN p ≠ keyN q := fun a b c e => c (keyN_inj a b e)
  unfold enter
  rw [C.n1]
  show Well P w0 f0 CS0 post (.go (.mk 43 (setSlots [.ptr x 0, .map M] .nil 0)) [.code c208] (.mk 208 [] .normal cs) h)
  obtain ⟨T, hT⟩ : ∃ T, T = Slots.mk 43 (setSlots [.ptr x 0, .map M] .nil 0) := ⟨_, rfl⟩
  have hn : T.n = 43 := by rw [hT]
  have h0 : T.get 0 = .ptr x 0 := by rw [hT]; rfl
  have h1 : T.get 1 = .map M := by rw [hT]; rfl
  rw [← hT]
  clear hT
  refine Well.reg hX hF ?_
  refine good_val rfl rfl (x_assign (v := .nilPtr) rfl) (by simp [hn]) (ops_end ?_)
  obtain ⟨T1, e1⟩ : ∃ T1, T1 = sset T 4 .nilPtr := ⟨_, rfl⟩
  have hn1 : T1.n = 43 := by rw [e1, sset_n, hn]
  have h01 : T1.get 0 = .ptr x 0 := by rw [e1, sset_get]; exact h0
  have h11 : T1.get 1 = .map M := by rw [e1, sset_get]; exact h1
  rw [← e1]
  clear e1
  have fr0 : h.get h.next = none := by rw [hnx]; exact hfr n (Nat.le_refl _) (by omega)
  obtain ⟨ha, ea⟩ : ∃ ha, ha = hnew h (.map [] 0) := ⟨_, rfl⟩
  have ga : ∀ b, ha.get b = if keyN n = b then some (.map [] 0) else h.get b := fun b => by rw [ea, hnew_get, hnx]
  have na : ha.next = keyN (n + 1) := by rw [ea]; show incr h.next = _; rw [hnx]; exact incr_keyN (by omega)
  have gax : ha.get x = some (.cells 389 [kd, md, dt, .map K, u0, n0] false 0) := by rw [ga, if_neg (nx n (Nat.le_refl _) (by omega))]; exact gx
  have fra : ha.get ha.next = none := by rw [na, ga, if_neg (inj (by omega) (by omega) (by omega))]; exact hfr _ (by omega) (by omega)
  obtain ⟨hb, eb⟩ : ∃ hb, hb = hnew ha (.cells 389 [kd, md, dt, .map (keyN n), .nilPtr, .str 0 0] false 0) := ⟨_, rfl⟩
  have gb : ∀ b, hb.get b = if keyN (n + 1) = b then some (rootO 389 kd md dt n .nilPtr (.str 0 0)) else ha.get b := fun b => by rw [eb, hnew_get, na]; rfl
  have nb : hb.next = keyN (n + 2) := by rw [eb]; show incr ha.next = _; rw [na]; exact incr_keyN (by omega)
  have gbx : hb.get x = some (.cells 389 [kd, md, dt, .map K, u0, n0] false 0) := by rw [gb, if_neg (nx _ (by omega) (by omega))]; exact gax
  refine Well.draw hX hF C.pl ?_
  refine plan_op (o := rka1_12) rfl rfl rfl ((x_makeMap fr0).trans (by rw [hnx, ← ea] : _ = Res.val (.map (keyN n)) ha)) (by simp [hn1]) ?_
  refine plan_op (o := rka1_0) rfl rfl rfl (x_move (v := .ptr x 0) ((mask_get rfl).trans (by simp [sset_get, h01]))) (by simp [sset_n, hn1]) ?_
  refine plan_op (o := rka1_1) rfl rfl rfl (x_nil (b := x) (o := 0) ((mask_get rfl).trans (by simp [sset_get]))) (by simp [sset_n, hn1]) ?_
  refine plan_op (o := rka1_2) rfl rfl rfl (x_faddr (b := x) (o := 0) (q := 0) ((mask_get rfl).trans (by simp [sset_get])) C.f0.1 (by rw [C.f0.2])) (by simp [sset_n, hn1]) ?_
  refine plan_op (o := rka1_3) rfl rfl rfl (x_load (b := x) (o := 0) (v := kd) ((mask_get rfl).trans (by simp [sset_get])) C.t3.1 C.t3.2 gax rfl) (by simp [sset_n, hn1]) ?_
  refine plan_op (o := rka1_4) rfl rfl rfl (x_move (v := .ptr x 0) ((mask_get rfl).trans (by simp [sset_get, h01]))) (by simp [sset_n, hn1]) ?_
  refine plan_op (o := rka1_5) rfl rfl rfl (x_nil (b := x) (o := 0) ((mask_get rfl).trans (by simp [sset_get]))) (by simp [sset_n, hn1]) ?_
  refine plan_op (o := rka1_6) rfl rfl rfl (x_faddr (b := x) (o := 0) (q := 1) ((mask_get rfl).trans (by simp [sset_get])) C.f1.1 (by rw [C.f1.2])) (by simp [sset_n, hn1]) ?_
  refine plan_op (o := rka1_7) rfl rfl rfl (x_load (b := x) (o := 1) (v := md) ((mask_get rfl).trans (by simp [sset_get])) C.t3.1 C.t3.2 gax rfl) (by simp [sset_n, hn1]) ?_
  refine plan_op (o := rka1_8) rfl rfl rfl (x_move (v := .ptr x 0) ((mask_get rfl).trans (by simp [sset_get, h01]))) (by simp [sset_n, hn1]) ?_
  refine plan_op (o := rka1_9) rfl rfl rfl (x_nil (b := x) (o := 0) ((mask_get rfl).trans (by simp [sset_get]))) (by simp [sset_n, hn1]) ?_
  refine plan_op (o := rka1_10) rfl rfl rfl (x_faddr (b := x) (o := 0) (q := 2) ((mask_get rfl).trans (by simp [sset_get])) C.f2.1 (by rw [C.f2.2])) (by simp [sset_n, hn1]) ?_
  refine plan_op (o := rka1_11) rfl rfl rfl (x_load (b := x) (o := 2) (v := dt) ((mask_get rfl).trans (by simp [sset_get])) C.t9.1 C.t9.2.1 gax rfl) (by simp [sset_n, hn1]) ?_
  have bld : ∀ (T : Slots) (h : Heap), T.get 11 = kd → T.get 15 = md → T.get 19 = dt → T.get 20 = .map (keyN n) → execA P rka1_13.op T h = .val (.agg [kd, md, dt, .map (keyN n), .nilPtr, .str 0 0]) h := fun T h a b c d => by
    show xBuild P 389 [(0, T.get 11), (1, T.get 15), (2, T.get 19), (3, T.get 20)] h = _
    rw [a, b, c, d]; exact C.bld kd md dt (keyN n) h pk pm pd
  refine plan_op (o := rka1_13) rfl rfl rfl (bld _ _ ((mask_get rfl).trans (by simp [sset_get])) ((mask_get rfl).trans (by simp [sset_get])) ((mask_get rfl).trans (by simp [sset_get])) ((mask_get rfl).trans (by simp [sset_get]))) (by simp [sset_n, hn1]) ?_
  have bxx : ∀ T : Slots, T.get 21 = .agg [kd, md, dt, .map (keyN n), .nilPtr, .str 0 0] → execA P rka1_14.op T ha = .val (.ptr (keyN (n + 1)) 0) hb := fun T e => by
    show execA P (.box 389 (.tmp 21)) T ha = _
    rw [x_box (P := P) (T := T) (h := ha) (x := .tmp 21) (show ev P T (.tmp 21) = .agg [kd, md, dt, .map (keyN n), .nilPtr, .str 0 0] from e) fra, na, ← eb]
  refine plan_op (o := rka1_14) rfl rfl rfl (bxx _ ((mask_get rfl).trans (by simp [sset_get]))) (by simp [sset_n, hn1]) ?_
  refine plan_chk (o := rka1_0) rfl rfl rfl (x_move (v := .ptr x 0) ((mask_get rfl).trans (by simp [sset_get, h01]))) (by simp [sset_get]) (beqA_ptr _ _) ?_
  refine plan_chk (o := rka1_1) rfl rfl rfl (x_nil (b := x) (o := 0) ((mask_get rfl).trans (by simp [sset_get]))) (by simp [sset_get]) (beqA_ptr _ _) ?_
  refine plan_chk (o := rka1_2) rfl rfl rfl (x_faddr (b := x) (o := 0) (q := 0) ((mask_get rfl).trans (by simp [sset_get])) C.f0.1 (by rw [C.f0.2])) (by simp [sset_get]) (beqA_ptr _ _) ?_
  refine plan_chk (o := rka1_3) rfl rfl rfl (x_load (b := x) (o := 0) (v := kd) ((mask_get rfl).trans (by simp [sset_get])) C.t3.1 C.t3.2 gbx rfl) (by simp [sset_get]) (beqA_pl pk) ?_
  refine plan_chk (o := rka1_4) rfl rfl rfl (x_move (v := .ptr x 0) ((mask_get rfl).trans (by simp [sset_get, h01]))) (by simp [sset_get]) (beqA_ptr _ _) ?_
  refine plan_chk (o := rka1_5) rfl rfl rfl (x_nil (b := x) (o := 0) ((mask_get rfl).trans (by simp [sset_get]))) (by simp [sset_get]) (beqA_ptr _ _) ?_
  refine plan_chk (o := rka1_6) rfl rfl rfl (x_faddr (b := x) (o := 0) (q := 1) ((mask_get rfl).trans (by simp [sset_get])) C.f1.1 (by rw [C.f1.2])) (by simp [sset_get]) (beqA_ptr _ _) ?_
  refine plan_chk (o := rka1_7) rfl rfl rfl (x_load (b := x) (o := 1) (v := md) ((mask_get rfl).trans (by simp [sset_get])) C.t3.1 C.t3.2 gbx rfl) (by simp [sset_get]) (beqA_pl pm) ?_
  refine plan_chk (o := rka1_8) rfl rfl rfl (x_move (v := .ptr x 0) ((mask_get rfl).trans (by simp [sset_get, h01]))) (by simp [sset_get]) (beqA_ptr _ _) ?_
  refine plan_chk (o := rka1_9) rfl rfl rfl (x_nil (b := x) (o := 0) ((mask_get rfl).trans (by simp [sset_get]))) (by simp [sset_get]) (beqA_ptr _ _) ?_
  refine plan_chk (o := rka1_10) rfl rfl rfl (x_faddr (b := x) (o := 0) (q := 2) ((mask_get rfl).trans (by simp [sset_get])) C.f2.1 (by rw [C.f2.2])) (by simp [sset_get]) (beqA_ptr _ _) ?_
  refine plan_chk (o := rka1_11) rfl rfl rfl (x_load (b := x) (o := 2) (v := dt) ((mask_get rfl).trans (by simp [sset_get])) C.t9.1 C.t9.2.1 gbx rfl) (by simp [sset_get]) (beqA_pl pd) ?_
  refine plan_chk (o := rka1_13) rfl rfl rfl (bld _ _ ((mask_get rfl).trans (by simp [sset_get])) ((mask_get rfl).trans (by simp [sset_get])) ((mask_get rfl).trans (by simp [sset_get])) ((mask_get rfl).trans (by simp [sset_get]))) (by simp [sset_get]) ?_ ?_
  · show beqL (beqA 59) [kd, md, dt, .map (keyN n), .nilPtr, .str 0 0] [kd, md, dt, .map (keyN n), .nilPtr, .str 0 0] = true
    simp only [beqL, beqA_lt pk, beqA_lt pm, beqA_lt pd]
    show and true (and true (and true (and (Key.same (keyN n) (keyN n)) true))) = true
    rw [(Key.same_iff _ _).2 rfl]; rfl
  refine plan_op (o := rka1_15) rfl rfl rfl (x_assign (v := .ptr (keyN (n + 1)) 0) ((mask_get rfl).trans (by simp [sset_get]))) (by simp [sset_n, hn1]) (plan_end ?_)
  obtain ⟨T2, e2, hn2, h02, h12, h52, h202⟩ : ∃ T2, T2 = sset (sset (sset (sset (sset (sset (sset (sset (sset (sset (sset (sset (sset (sset (sset (sset T1 20 (.map (keyN n))) 8 (.ptr x 0)) 9 (.ptr x 0)) 10 (.ptr x 0)) 11 kd) 12 (.ptr x 0)) 13 (.ptr x 0)) 14 (.ptr x 1)) 15 md) 16 (.ptr x 0)) 17 (.ptr x 0)) 18 (.ptr x 2)) 19 dt) 21 (.agg [kd, md, dt, .map (keyN n), .nilPtr, .str 0 0])) 22 (.ptr (keyN (n + 1)) 0)) 5 (.ptr (keyN (n + 1)) 0) ∧ T2.n = 43 ∧ T2.get 0 = .ptr x 0 ∧ T2.get 1 = .map M ∧ T2.get 5 = .ptr (keyN (n + 1)) 0 ∧ T2.get 20 = .map (keyN n) :=
    ⟨_, rfl, by simp [sset_n, hn1], by simp [sset_get, h01], by simp [sset_get, h11], by simp [sset_get], by simp [sset_get]⟩
  rw [← e2]
  clear e2
  have gbM : hb.get M = some (.lmap os) := by rw [gb, if_neg (nM _ (by omega) (by omega)), ga, if_neg (nM _ (by omega) (by omega))]; exact gM
  have hset : setL P hb 324 (.ptr x 0) (.ptr (keyN (n + 1)) 0) os = some (os ++ [(.ptr x 0, .ptr (keyN (n + 1)) 0)], true) := setL_new fun e he => by
    obtain ⟨b, cs', e1, e2, e3⟩ := hos e he
    have nb' : ∀ q, n ≤ q → q < n + es.length + 4 → keyN q ≠ b := fun q a c e => by rw [← e, hfr q a c] at e3; cases e3
    rw [e1]
    exact eqT_ptr C.u324 C.z389 (live_cells gbx) (live_cells (by rw [gb, if_neg (nb' _ (by omega) (by omega)), ga, if_neg (nb' _ (by omega) (by omega))]; exact e3)) (fun e => e2 e.symm)
  refine Well.reg hX hF ?_
  refine good_val rfl rfl (x_move (v := .map M) (by simp [ev_tmp, h12])) (by simp [hn2]) ?_
  refine good_val rfl rfl (x_move (v := .ptr x 0) (by simp [ev_tmp, sset_get, h02])) (by simp [sset_n, hn2]) ?_
  refine good_val rfl rfl (x_move (v := .ptr (keyN (n + 1)) 0) (by simp [ev_tmp, sset_get, h52])) (by simp [sset_n, hn2]) ?_
  refine good_unit rfl rfl (x_mapUpd (b := M) (k' := .ptr x 0) (v' := .ptr (keyN (n + 1)) 0) (by simp [ev_tmp, sset_get]) (by simp [ev_tmp, sset_get]) (by simp [ev_tmp, sset_get]) C.u323 C.k324 gbM hset) (ops_end ?_)
  obtain ⟨hc, ec⟩ : ∃ hc, hc = hb.put M (.lmap (os ++ [(.ptr x 0, .ptr (keyN (n + 1)) 0)])) := ⟨_, rfl⟩
  have gc : ∀ b, hc.get b = if M = b then some (.lmap (os ++ [(.ptr x 0, .ptr (keyN (n + 1)) 0)])) else hb.get b := fun b => by rw [ec, put_get]
  have nc : hc.next = keyN (n + 2) := by rw [ec, put_next, nb]
  rw [← ec]
  have gcx : hc.get x = some (.cells 389 [kd, md, dt, .map K, u0, n0] false 0) := by rw [gc, if_neg hMx]; exact gbx
  have gcK : hc.get K = some (.lmap es) := by rw [gc, if_neg hMK, gb, if_neg (nK _ (by omega) (by omega)), ga, if_neg (nK _ (by omega) (by omega))]; exact gK
  have gcf : ∀ q, n + 2 ≤ q → q < n + es.length + 4 → hc.get (keyN q) = none := fun q a b => by
    rw [gc, if_neg (fun e => nM q (by omega) b e.symm), gb, if_neg (inj (by omega) (by omega) (by omega)), ga, if_neg (inj (by omega) (by omega) (by omega))]
    exact hfr q (by omega) b
  obtain ⟨hd, xd, nd, d1, d2, d3, d4⟩ := x_range (P := P) (T := sset (sset (sset (sset (sset (sset (sset T2 23 (.map M)) 24 (.ptr x 0)) 25 (.ptr (keyN (n + 1)) 0)) 26 (.ptr x 0)) 27 (.ptr x 0)) 28 (.ptr x 3)) 29 (.map K)) (x := .tmp 29) (t := 387) (by simp [ev_tmp, sset_get]) C.m387 gcK nc (fun q a b => gcf q (by omega) (by omega)) (by omega)
  refine Well.reg2 hX hF ?_
  refine good_val rfl rfl (x_move (v := .ptr x 0) (by simp [ev_tmp, sset_get, h02])) (by simp [sset_n, hn2]) ?_
  refine good_val rfl rfl (x_nil (b := x) (o := 0) (by simp [ev_tmp, sset_get])) (by simp [sset_n, hn2]) ?_
  refine good_val rfl rfl (x_faddr (b := x) (o := 0) (q := 3) (by simp [ev_tmp, sset_get]) C.f3.1 (by rw [C.f3.2])) (by simp [sset_n, hn2]) ?_
  refine good_val rfl rfl (x_load (b := x) (o := 3) (v := .map K) (by simp [ev_tmp, sset_get]) C.t387.1 C.t387.2 gcx rfl) (by simp [sset_n, hn2]) ?_
  refine good_val rfl rfl xd (by simp [sset_n, hn2]) (ops_end ?_)
  obtain ⟨T3, e3, hn3, h13, h53, h203, h293, h303⟩ : ∃ T3, T3 = sset (sset (sset (sset (sset (sset (sset (sset T2 23 (.map M)) 24 (.ptr x 0)) 25 (.ptr (keyN (n + 1)) 0)) 26 (.ptr x 0)) 27 (.ptr x 0)) 28 (.ptr x 3)) 29 (.map K)) 30 (.ptr (keyN (n + 2 + es.length + 1)) 0) ∧ T3.n = 43 ∧ T3.get 1 = .map M ∧ T3.get 5 = .ptr (keyN (n + 1)) 0 ∧ T3.get 20 = .map (keyN n) ∧ T3.get 29 = .map K ∧ T3.get 30 = .ptr (keyN (n + 2 + es.length + 1)) 0 :=
    ⟨_, rfl, by simp [sset_n, hn2], by simp [sset_get, h12], by simp [sset_get, h52], by simp [sset_get, h202], by simp [sset_get], by simp [sset_get]⟩
  rw [← e3]
  clear e3
  rw [show n + 2 + es.length + 1 = n + es.length + 3 by omega] at h303 d2
  rw [show n + 2 + es.length = n + es.length + 2 by omega] at d1 d2
  have hdn : ∀ q, n ≤ q → q < n + 2 → hd.get (keyN q) = hc.get (keyN q) := fun q a b => d4 _ (nK q a (by omega)) fun p c e => inj (by omega) (by omega) (by omega)
  have hd0 : hd.get (keyN n) = some (.map [] 0) := by rw [hdn n (Nat.le_refl _) (by omega), gc, if_neg (fun e => nM n (Nat.le_refl _) (by omega) e.symm), gb, if_neg (inj (by omega) (by omega) (by omega)), ga, if_pos rfl]
  refine Well.go hX hF ?_
  change Well P w0 f0 CS0 post (.go T3 kTop (.mk 208 [] .normal cs) hd)
  refine Well.less (b := keyN n) (o := .map [] 0) (o' := .lmap []) rfl ⟨20, .inr h203⟩ hd0 rfl ?_ (g T3 (hd.put (keyN n) (.lmap [])) hn3 h13 h53 h203 h293 h303 ?_ ?_ ?_ ?_ ?_ ?_ ?_)
  · rintro N ρ L O ⟨a, E, e, hE⟩
    have hE0 : E.toList = [] := by
      generalize E.toList = l at hE
      cases hE; rfl
    exact ⟨a, E, 0, e, ⟨[], .refl _, by rw [hE0]; exact .nil⟩, by rw [hE0]; exact ⟨(fun e he => by cases he), List.nodup_nil⟩⟩
  all_goals first | (rw [put_get, if_pos rfl]; done) | skip
  · rw [put_get, if_neg (inj (by omega) (by omega) (by omega)), hdn _ (by omega) (by omega), gc, if_neg (fun e => nM _ (by omega) (by omega) e.symm), gb, if_pos rfl]
  · rw [put_get, if_neg (inj (by omega) (by omega) (by omega))]; exact d2
  · rw [put_get, if_neg (nK n (Nat.le_refl _) (by omega))]; exact d1
  · rw [put_get, if_neg (nM n (Nat.le_refl _) (by omega)), d4 M hMK fun q a b => nM q (by omega) (by omega), gc, if_pos rfl]
  · intro q a b
    rw [put_get, if_neg (inj (by omega) (by omega) (by omega))]; exact d3 q (by omega) (by omega)
  · intro b hbK hbM hb'
    rw [put_get, if_neg (hb' n (Nat.le_refl _) (by omega)), d4 b hbK fun q a c => hb' q (by omega) (by omega), gc, if_neg (fun e => hbM e.symm), gb, if_neg (hb' _ (by omega) (by omega)), ga, if_neg (hb' _ (by omega) (by omega))]
end
noncomputable def hAt (y ky it M K ck : Key) (os1 : List (AV × AV)) (al ag : List Key) (h1 : Heap) (done : List Kid) (b : Key) : Option AObj :=
  orO (lk (flatL (Kid.objs 389 y) done) b) (if ky = b then some (.lmap (namesK done)) else if it = b then some (.smiter K al ag ck) else if M = b then some (.lmap (os1 ++ flatL (fun k => k.r.en) done)) else h1.get b)
def agesK (ks : List Kid) : List Key := ks.map fun k => keyN k.a
theorem leftS_mem {seen : List Key} {e : AV × AV × Key} : ∀ {l : List (AV × AV × Key)}, e ∈ leftS seen l ↔ e ∈ l ∧ e.2.2 ∉ seen
  | [] => by simp [leftS]
  | a :: r => by
    unfold leftS
    cases hm : memK a.2.2 seen with
    | true =>
      rw [cond_true, leftS_mem]
      have := memK_iff.1 hm
      constructor
      · rintro ⟨h1, h2⟩; exact ⟨List.mem_cons_of_mem _ h1, h2⟩
      · rintro ⟨h1, h2⟩
        cases h1 with
        | head => exact absurd this h2
        | tail _ h1 => exact ⟨h1, h2⟩
    | false =>
      rw [cond_false]
      have hn : a.2.2 ∉ seen := fun h => by rw [memK_iff.2 h] at hm; cases hm
      constructor
      · intro h
        cases h with
        | head => exact ⟨List.mem_cons_self .., hn⟩
        | tail _ h => exact ⟨List.mem_cons_of_mem _ (leftS_mem.1 h).1, (leftS_mem.1 h).2⟩
      · rintro ⟨h1, h2⟩
        cases h1 with
        | head => exact List.mem_cons_self ..
        | tail _ h1 => exact List.mem_cons_of_mem _ (leftS_mem.2 ⟨h1, h2⟩)
theorem sameKs_refl : ∀ l : List Key, sameKs l l = true
  | [] => rfl
  | a :: r => by show cond (Key.same a a) (sameKs r r) false = true; rw [(Key.same_iff a a).2 rfl, sameKs_refl r]; rfl
theorem subK_of {al : List Key} : ∀ {l : List Key}, (∀ b ∈ l, b ∈ al) → subK al l = true
  | [], _ => rfl
  | a :: r, h => by
    show cond (memK a al) (subK al r) false = true
    rw [memK_iff.2 (h a (List.mem_cons_self ..)), subK_of fun b hb => h b (List.mem_cons_of_mem _ hb)]; rfl
theorem keysS_map (f : Kid → AV × AV × Key) (hf : ∀ k, (f k).2.2 = keyN k.a) : ∀ ks : List Kid, keysS (ks.map f) = agesK ks
  | [] => rfl
  | k :: r => by show (f k).2.2 :: keysS (r.map f) = keyN k.a :: agesK r; rw [hf, keysS_map f hf r]
theorem findS_map {f : Kid → AV × AV × Key} (hf : ∀ k, (f k).2.2 = keyN k.a) : ∀ {ks : List Kid} {k : Kid}, k ∈ ks → (∀ k' ∈ ks, keyN k'.a = keyN k.a → k' = k) → findS (keyN k.a) (ks.map f) = some ((f k).1, (f k).2.1)
  | [], _, h, _ => by cases h
  | a :: r, k, h, hu => by
    show cond (Key.same (f a).2.2 (keyN k.a)) (some ((f a).1, (f a).2.1)) (findS (keyN k.a) (r.map f)) = _
    rw [hf]
    cases hs : Key.same (keyN a.a) (keyN k.a) with
    | true =>
      have := hu a (List.mem_cons_self ..) ((Key.same_iff _ _).1 hs)
      rw [this]; rfl
    | false =>
      cases h with
      | head => rw [(Key.same_iff _ _).2 rfl] at hs; cases hs
      | tail _ h => exact findS_map hf h fun k' hk' => hu k' (List.mem_cons_of_mem _ hk')
theorem otherNames_spec {l c : Nat} : ∀ {ks : List Kid}, otherNames l c ks = true → ∀ k ∈ ks, ¬ (l = k.l ∧ c = k.c)
  | [], _, k, hk => by cases hk
  | a :: r, h, k, hk => by
    have h : cond (cond (Nat.beq l a.l) (Nat.beq c a.c) false) false (otherNames l c r) = true := h
    cases hb : cond (Nat.beq l a.l) (Nat.beq c a.c) false with
    | true => rw [hb] at h; cases h
    | false =>
      rw [hb] at h
      cases hk with
      | head => rintro ⟨e1, e2⟩; rw [e1, e2] at hb; simp at hb
      | tail _ hk => exact otherNames_spec h k hk
theorem namesOk_spec : ∀ {ks : List Kid}, namesOk ks = true → ks.Pairwise fun k k' => ¬ (k.l = k'.l ∧ k.c = k'.c)
  | [], _ => .nil
  | a :: r, h => by
    obtain ⟨h1, h2⟩ := condB (show cond (otherNames a.l a.c r) (namesOk r) false = true from h)
    exact .cons (otherNames_spec h1) (namesOk_spec h2)
theorem objs_range {y : Key} {k : Kid} (hr : ∀ p ∈ k.r.lo, ∃ q, k.n ≤ q ∧ q < k.r.nx ∧ q ≠ k.n + 1 ∧ p.1 = keyN q) (hn : k.n + 4 ≤ k.r.nx) : ∀ p ∈ Kid.objs 389 y k, ∃ q, k.n ≤ q ∧ q < k.r.nx ∧ p.1 = keyN q := by
  intro p hp
  unfold Kid.objs at hp
  rw [cat_eq] at hp
  rcases List.mem_append.1 hp with hp | hp
  · obtain ⟨q, a, b, _, e⟩ := hr p hp; exact ⟨q, a, b, e⟩
  · have : p = (k.y, rootO 389 k.r.kd k.r.md k.r.dt k.n (.ptr y 0) k.nm) := by simpa using hp
    subst this
    exact ⟨k.n + 1, by omega, by omega, rfl⟩
section
variable {P : Program} {w0 : Base} {f0 : Nat} {CS0 : List Frame} [H : Hook] {post : AV → Heap → Bool}
def CopySpec (P : Program) (w0 : Base) (f0 : Nat) (CS0 : List Frame) [Hook] (post : AV → Heap → Bool) (t : RT AObj) (M x : Key) (n : Nat) (r : CpR) : Prop :=
  ∀ (cs : List AFrame) (h : Heap) (os : List (AV × AV)), h.next = keyN n → (∀ b ∈ r.rd, h.get b = t.get b) → h.get M = some (.lmap os) → (∀ e ∈ os, ∃ b cs, e.1 = .ptr b 0 ∧ b ∉ r.rd ∧ h.get b = some (.cells 389 cs false 0)) → (∀ q, n ≤ q → q < r.nx → h.get (keyN q) = none) →
    (∀ h' : Heap, (∀ b, h'.get b = orO (lk (r.lo ++ [(keyN (n + 1), rootO 389 r.kd r.md r.dt n .nilPtr (.str 0 0))]) b) (if M = b then some (.lmap (os ++ r.en)) else h.get b)) → Well P w0 f0 CS0 post (retTo (.ptr (keyN (n + 1)) 0) .normal cs h')) →
      Well P w0 f0 CS0 post (enter P 208 [.ptr x 0, .map M] .normal cs h c208)
theorem cond_f {T : Slots} {b X : Code} {k : List AItem} {c : Ctx} {h : Heap} (e : T.get 32 = .bool false) : stepGo P T (.code (.seq (.cond (.tmp 32) .skip (.exit 0)) b) :: .inLoop X :: .inBlock 0 :: k) c h = .go T k c h := by
  show (match ev P T (.tmp 32) with | .bool t => Bool.rec (motive := fun _ => St) (St.go T k c h) (St.go T (.code b :: .inLoop X :: .inBlock 0 :: k) c h) t | _ => .bad "cond") = _
  rw [ev_tmp, e]
theorem cond_t {T : Slots} {b X : Code} {k : List AItem} {c : Ctx} {h : Heap} (e : T.get 32 = .bool true) : stepGo P T (.code (.seq (.cond (.tmp 32) .skip (.exit 0)) b) :: .inLoop X :: .inBlock 0 :: k) c h = .go T (.code b :: .inLoop X :: .inBlock 0 :: k) c h := by
  show (match ev P T (.tmp 32) with | .bool t => Bool.rec (motive := fun _ => St) (St.go T k c h) (St.go T (.code b :: .inLoop X :: .inBlock 0 :: k) c h) t | _ => .bad "cond") = _
  rw [ev_tmp, e]
theorem go_blk {n i : Nat} {ops : List Oper} {b : Code} {T : Slots} {k : List AItem} {c : Ctx} {h : Heap} : stepGo P T (.code (.block i (.seq (.region n ⟨ops⟩ false) b)) :: k) c h = stepOps P ops (.code b :: .inBlock i :: k) c ops T h := rfl
omit H in
theorem get_next (h : Heap) (n b : _) : (Heap.mk h.t n).get b = h.get b := by cases h; rfl
structure TopT (T : Slots) (y ky it M K : Key) : Prop where
  n : T.n = 43
  s1 : T.get 1 = .map M
  s5 : T.get 5 = .ptr y 0
  s20 : T.get 20 = .map ky
  s29 : T.get 29 = .map K
  s30 : T.get 30 = .ptr it 0
structure LoopH (t : RT AObj) (M K : Key) (n N0 m : Nat) (it ck : Key) (os1 : List (AV × AV)) (ks : List Kid) (h1 : Heap) (kd md dt : AV) : Prop where
  lt : m < 32768
  nm : N0 ≤ m
  n0 : n + 4 ≤ N0
  itn : ∃ q, it = keyN q ∧ n + 2 ≤ q ∧ q < N0
  kid : ∀ k ∈ ks, k.n + 4 ≤ k.r.nx ∧ N0 ≤ k.n ∧ k.r.nx ≤ m ∧ k.a < 32768
  lo : ∀ k ∈ ks, ∀ p ∈ k.r.lo, ∃ q, k.n ≤ q ∧ q < k.r.nx ∧ q ≠ k.n + 1 ∧ p.1 = keyN q
  pair : ks.Pairwise fun k k' => k.r.nx ≤ k'.n ∧ k.a < k'.a
  names : ks.Pairwise fun k k' => ¬ (k.l = k'.l ∧ k.c = k'.c)
  rd : ks.Pairwise fun k k' => ∀ b ∈ k.r.rd, b ∉ k'.r.rd
  rdt : ∀ k ∈ ks, ∀ b ∈ k.r.rd, h1.get b = t.get b ∧ b ≠ M ∧ ∀ q, n ≤ q → q < m → keyN q ≠ b
  en : ∀ k ∈ ks, ∀ e ∈ k.r.en, ∃ b cs, e.1 = .ptr b 0 ∧ b ∈ k.r.rd ∧ t.get b = some (.cells 389 cs false 0)
  os : ∀ e ∈ os1, ∃ b cs, e.1 = .ptr b 0 ∧ (∀ k ∈ ks, b ∉ k.r.rd) ∧ h1.get b = some (.cells 389 cs false 0) ∧ ∀ q, n ≤ q → q < m → keyN q ≠ b
  hy : h1.get (keyN (n + 1)) = some (rootO 389 kd md dt n .nilPtr (.str 0 0))
  hM : h1.get M = some (.lmap os1)
  hK : h1.get K = some (.smap (ks.map fun k => (k.nm, .ptr k.x 0, keyN k.a)) ck)
  nM : ∀ q, n ≤ q → q < m → keyN q ≠ M
  nK : ∀ q, n ≤ q → q < m → keyN q ≠ K
  fr : ∀ q, N0 ≤ q → q < m → h1.get (keyN q) = none
omit H in
theorem pairwise_ne {α : Type} {R : α → α → Prop} {l : List α} (h : l.Pairwise R) {a b : α} (ha : a ∈ l) (hb : b ∈ l) (hne : a ≠ b) : R a b ∨ R b a := by
  induction h with
  | nil => cases ha
  | cons hx _ ih =>
    cases ha with
    | head => cases hb with
      | head => exact absurd rfl hne
      | tail _ hb => exact .inl (hx _ hb)
    | tail _ ha => cases hb with
      | head => exact .inr (hx _ ha)
      | tail _ hb => exact ih ha hb
section
omit H
variable {t : RT AObj} {M K : Key} {n N0 m : Nat} {it ck : Key} {os1 : List (AV × AV)} {ks : List Kid} {h1 : Heap} {kd md dt : AV} (L : LoopH t M K n N0 m it ck os1 ks h1 kd md dt)
include L
omit L in
theorem keyN_ne {p q : Nat} (a : p < 32768) (b : q < 32768) (c : p ≠ q) : keyN p ≠ keyN q := fun e => c (keyN_inj a b e)
theorem LoopH.sep {k k' : Kid} (hk : k ∈ ks) (hk' : k' ∈ ks) (hne : k ≠ k') : k.r.nx ≤ k'.n ∨ k'.r.nx ≤ k.n := by
  rcases pairwise_ne L.pair hk hk' hne with h | h
  · exact .inl h.1
  · exact .inr h.1
theorem LoopH.lkOut {done : List Kid} (hd : ∀ k ∈ done, k ∈ ks) {b : Key} (hb : ∀ k ∈ done, ∀ q, k.n ≤ q → q < k.r.nx → keyN q ≠ b) : lk (flatL (Kid.objs 389 (keyN (n + 1))) done) b = none := lk_none fun p hp => by
  obtain ⟨k, hk, hp⟩ := mem_flatL.1 hp
  obtain ⟨q, a, c, e⟩ := objs_range (L.lo k (hd k hk)) (L.kid k (hd k hk)).1 p hp
  rw [e]; exact hb k hk q a c
theorem LoopH.lkLow {done : List Kid} (hd : ∀ k ∈ done, k ∈ ks) {q : Nat} (hq : q < N0) : lk (flatL (Kid.objs 389 (keyN (n + 1))) done) (keyN q) = none := L.lkOut hd fun k hk p a b e => by
  have h := L.kid k (hd k hk)
  have := L.lt
  exact keyN_ne (by omega) (by omega) (by omega : p ≠ q) e
theorem LoopH.lkNew {done : List Kid} (hd : ∀ k ∈ done, k ∈ ks) {k : Kid} (hk : k ∈ ks) (hn : k ∉ done) {q : Nat} (a : k.n ≤ q) (b : q < k.r.nx) : lk (flatL (Kid.objs 389 (keyN (n + 1))) done) (keyN q) = none := L.lkOut hd fun k' hk' p c d e => by
  have h := L.kid k hk
  have h' := L.kid k' (hd k' hk')
  have := L.lt
  rcases L.sep hk (hd k' hk') (fun e => hn (e ▸ hk')) with g | g <;> exact keyN_ne (by omega) (by omega) (by omega : p ≠ q) e
theorem LoopH.lkOld {done : List Kid} (hd : ∀ k ∈ done, k ∈ ks) {b : Key} (hb : ∀ q, n ≤ q → q < m → keyN q ≠ b) : lk (flatL (Kid.objs 389 (keyN (n + 1))) done) b = none := L.lkOut hd fun k hk q a c => by
  have h := L.kid k (hd k hk)
  have := L.n0
  exact hb q (by omega) (by omega)
end
end
section
variable {P : Program} {w0 : Base} {f0 : Nat} {CS0 : List Frame} [H : Hook] {post : AV → Heap → Bool}
set_option maxHeartbeats 4000000 in
theorem loop_good (C : CpFacts P) (hX : Env P w0) (hF : P.follows .mixedOrders = true) (hs0 : ∀ f, sumKind f = 0) {t : RT AObj} {M K : Key} {n N0 m : Nat} {it ck : Key} {os1 : List (AV × AV)} {ks : List Kid} {h1 : Heap} {kd md dt : AV} (L : LoopH t M K n N0 m it ck os1 ks h1 kd md dt)
    (spec : ∀ k ∈ ks, CopySpec P w0 f0 CS0 post t M k.x k.n k.r) {cs : List AFrame}
    (gEnd : ∀ (done : List Kid) (T : Slots) (h : Heap), ks.Perm done → TopT T (keyN (n + 1)) (keyN n) it M K → (∀ b, h.get b = hAt (keyN (n + 1)) (keyN n) it M K ck os1 (agesK ks) (agesK done) h1 done b) → Well P w0 f0 CS0 post (.go T kEnd (.mk 208 [] .normal cs) h)) :
    ∀ (z : Nat) (done rest : List Kid), rest.length = z → ks.Perm (done ++ rest) → ∀ (T : Slots) (h : Heap), TopT T (keyN (n + 1)) (keyN n) it M K → (∀ b, h.get b = hAt (keyN (n + 1)) (keyN n) it M K ck os1 (agesK ks) (agesK done) h1 done b) →
      Well P w0 f0 CS0 post (.go T kTop (.mk 208 [] .normal cs) h) := by
  have hlt := L.lt
  have hn0 := L.n0
  have hnm := L.nm
  obtain ⟨iq, eit, hiq1, hiq2⟩ := L.itn
  have nky : keyN n ≠ keyN (n + 1) := keyN_ne (by omega) (by omega) (by omega)
  have nkyit : keyN n ≠ it := by rw [eit]; exact keyN_ne (by omega) (by omega) (by omega)
  have nyit : keyN (n + 1) ≠ it := by rw [eit]; exact keyN_ne (by omega) (by omega) (by omega)
  have nMq : ∀ q, n ≤ q → q < N0 → M ≠ keyN q := fun q a b e => L.nM q a (by omega) e.symm
  have nKM : K ≠ M := fun e => by have := L.hK; rw [e, L.hM] at this; cases this
  have nMit : it ≠ M := by rw [eit]; exact L.nM _ (by omega) (by omega)
  have nMky : keyN n ≠ M := L.nM _ (by omega) (by omega)
  have nMy : keyN (n + 1) ≠ M := L.nM _ (by omega) (by omega)
  have nKit : it ≠ K := by rw [eit]; exact L.nK _ (by omega) (by omega)
  have nKky : keyN n ≠ K := L.nK _ (by omega) (by omega)
  have hnd : ks.Nodup := L.pair.imp fun {a b} h e => by subst e; omega
  have aInj : ∀ k ∈ ks, ∀ k' ∈ ks, keyN k'.a = keyN k.a → k' = k := fun k hk k' hk' e => by
    refine Classical.byContradiction fun hne => ?_
    have e := keyN_inj (L.kid k' hk').2.2.2 (L.kid k hk).2.2.2 e
    rcases pairwise_ne L.pair hk' hk hne with h | h <;> omega
  have step : ∀ (done rest : List Kid), ks.Perm (done ++ rest) → (∀ k ∈ rest, ∀ s u, rest = s ++ k :: u → ∀ (T : Slots) (h : Heap), TopT T (keyN (n + 1)) (keyN n) it M K → (∀ b, h.get b = hAt (keyN (n + 1)) (keyN n) it M K ck os1 (agesK ks) (agesK (done ++ [k])) h1 (done ++ [k]) b) → Well P w0 f0 CS0 post (.go T kTop (.mk 208 [] .normal cs) h)) →
      ∀ (T : Slots) (h : Heap), TopT T (keyN (n + 1)) (keyN n) it M K → (∀ b, h.get b = hAt (keyN (n + 1)) (keyN n) it M K ck os1 (agesK ks) (agesK done) h1 done b) → Well P w0 f0 CS0 post (.go T kTop (.mk 208 [] .normal cs) h) := by
    intro done rest hp ih T h hT hh
    have hd : ∀ k ∈ done, k ∈ ks := fun k hk => hp.mem_iff.2 (List.mem_append_left _ hk)
    have hrk : ∀ k ∈ rest, k ∈ ks := fun k hk => hp.mem_iff.2 (List.mem_append_right _ hk)
    have hdr : ∀ k ∈ rest, k ∉ done := fun k hk hk' => by
      have := (hp.nodup_iff.1 hnd)
      rw [List.nodup_append] at this
      exact this.2.2 k hk' k hk rfl
    have lit : lk (flatL (Kid.objs 389 (keyN (n + 1))) done) it = none := by rw [eit]; exact L.lkLow hd hiq2
    have lK : lk (flatL (Kid.objs 389 (keyN (n + 1))) done) K = none := L.lkOld hd L.nK
    have hit : h.get it = some (.smiter K (agesK ks) (agesK done) ck) := by
      rw [hh]; unfold hAt; rw [lit, if_neg nkyit, if_pos rfl]; rfl
    have hK : h.get K = some (.smap (ks.map fun k => (k.nm, .ptr k.x 0, keyN k.a)) ck) := by
      rw [hh]; unfold hAt; rw [lK, if_neg nKky, if_neg nKit, if_neg (fun e => nKM e.symm)]; exact L.hK
    change Well P w0 f0 CS0 post (.go T (.code ((Code.region 4 ⟨rka4⟩ false).seq ((Code.cond (Operand.tmp 32) Code.skip (Code.exit 0)).seq (Code.block 1 ((Code.region 5 ⟨rka5⟩ false).seq (Code.region 6 ⟨rka6⟩ false))))) :: .inLoop cX :: .inBlock 0 :: kEnd) (.mk 208 [] .normal cs) h)
    refine Well.reg hX hF ?_
    refine good_next hX hF (d := 31) (x := .tmp 30) (o := rka4_0) rfl rfl rfl (by rw [hT.n]; decide) hT.s30 hit hK (by rw [keysS_map _ (fun _ => rfl)]; exact sameKs_refl _) (subK_of fun b hb => ?_) (fun he => ?_) (fun e he => ?_)
    · obtain ⟨k, hk, rfl⟩ := List.mem_map.1 hb
      exact List.mem_map.2 ⟨k, hd k hk, rfl⟩
    · -- all are done
      have hr : rest = [] := by
        cases hrr : rest with
        | nil => rfl
        | cons k u =>
          exfalso
          have hk : k ∈ rest := by rw [hrr]; exact List.mem_cons_self ..
          have hl : (k.nm, AV.ptr k.x 0, keyN k.a) ∈ leftS (agesK done) (ks.map fun k => (k.nm, .ptr k.x 0, keyN k.a)) := leftS_mem.2 ⟨List.mem_map.2 ⟨k, hrk k hk, rfl⟩, fun hm => by
            obtain ⟨k', hk', e⟩ := List.mem_map.1 hm
            have := aInj k (hrk k hk) k' (hd k' hk') e
            exact hdr k hk (this ▸ hk')⟩
          rw [he] at hl; cases hl
      subst hr
      rw [List.append_nil] at hp
      refine good_val rfl rfl (x_extract (vs := [.bool false]) (v := .bool false) (by simp [ev_tmp, sset_get]) rfl) (by simp [sset_n, hT.n]) (ops_end ?_)
      refine Well.go hX hF ?_
      rw [cond_f (by simp [sset_get])]
      exact gEnd done _ h hp ⟨by simp [sset_n, hT.n], by simp [sset_get, hT.s1], by simp [sset_get, hT.s5], by simp [sset_get, hT.s20], by simp [sset_get, hT.s29], by simp [sset_get, hT.s30]⟩ hh
    · -- one more
      obtain ⟨he1, he2⟩ := leftS_mem.1 he
      obtain ⟨k, hk, rfl⟩ := List.mem_map.1 he1
      have hkd : k ∉ done := fun hm => he2 (List.mem_map.2 ⟨k, hm, rfl⟩)
      have hkr : k ∈ rest := by
        rcases List.mem_append.1 (hp.mem_iff.1 hk) with h | h
        · exact absurd h hkd
        · exact h
      obtain ⟨s, u, hsu⟩ := List.append_of_mem hkr
      dsimp only
      obtain ⟨kn1, kn2, kn3, kn4⟩ := L.kid k hk
      refine good_val rfl rfl (x_extract (vs := [.bool true, k.nm, .ptr k.x 0]) (v := .bool true) (by simp [ev_tmp, sset_get]) rfl) (by simp [sset_n, hT.n]) (ops_end ?_)
      refine Well.go hX hF ?_
      rw [cond_t (by simp [sset_get])]
      refine Well.go hX hF ?_
      rw [go_blk]
      obtain ⟨h2, e2⟩ : ∃ h2, h2 = h.put it (.smiter K (agesK ks) (cat (agesK done) [keyN k.a]) ck) := ⟨_, rfl⟩
      have g2 : ∀ b, h2.get b = if it = b then some (.smiter K (agesK ks) (agesK (done ++ [k])) ck) else h.get b := fun b => by
        rw [e2, put_get, cat_eq]
        unfold agesK; rw [List.map_append]; rfl
      rw [← e2]
      obtain ⟨T2, eT, hn2, t1, t5, t20, t29, t30⟩ : ∃ T2, T2 = sset (sset T 31 (.tup [.bool true, k.nm, .ptr k.x 0])) 32 (.bool true) ∧ T2.n = 43 ∧ T2.get 1 = .map M ∧ T2.get 5 = .ptr (keyN (n + 1)) 0 ∧ T2.get 20 = .map (keyN n) ∧ T2.get 29 = .map K ∧ T2.get 30 = .ptr it 0 :=
        ⟨_, rfl, by simp [sset_n, hT.n], by simp [sset_get, hT.s1], by simp [sset_get, hT.s5], by simp [sset_get, hT.s20], by simp [sset_get, hT.s29], by simp [sset_get, hT.s30]⟩
      rw [← eT]
      clear eT
      refine good_val rfl rfl (x_entry (it := it) (K := K) (ck := ck) (a := keyN k.a) (all := agesK ks) (seen := agesK (done ++ [k])) (ses := ks.map fun k => (k.nm, .ptr k.x 0, keyN k.a)) (p := (k.nm, .ptr k.x 0)) (by simp [ev_tmp, t30]) (by rw [g2, if_pos rfl]) (by rw [g2, if_neg nKit]; exact hK) (by unfold agesK; rw [List.map_append]; simp) (findS_map (f := fun k => (k.nm, .ptr k.x 0, keyN k.a)) (fun _ => rfl) hk (fun k' hk' e => aInj k hk k' hk' e))) (by simp [hn2]) ?_
      refine good_val rfl rfl (x_extract (vs := [k.nm, .ptr k.x 0]) (v := k.nm) (by simp [ev_tmp, sset_get]) rfl) (by simp [sset_n, hn2]) ?_
      refine good_val rfl rfl (x_extract (vs := [k.nm, .ptr k.x 0]) (v := .ptr k.x 0) (by simp [ev_tmp, sset_get]) rfl) (by simp [sset_n, hn2]) ?_
      refine good_val rfl rfl (x_assign (v := k.nm) (by simp [ev_tmp, sset_get])) (by simp [sset_n, hn2]) ?_
      refine good_val rfl rfl (x_assign (v := .ptr k.x 0) (by simp [ev_tmp, sset_get])) (by simp [sset_n, hn2]) (ops_end (Well.reg1 hX hF ?_))
      refine good_val rfl rfl (x_move (v := .ptr (keyN (n + 1)) 0) (by simp [ev_tmp, sset_get, t5])) (by simp [sset_n, hn2]) ?_
      refine good_val rfl rfl (x_move (v := k.nm) (by simp [ev_tmp, sset_get])) (by simp [sset_n, hn2]) ?_
      refine good_val rfl rfl (x_move (v := .ptr k.x 0) (by simp [ev_tmp, sset_get])) (by simp [sset_n, hn2]) ?_
      refine good_val rfl rfl (x_move (v := .map M) (by simp [ev_tmp, sset_get, t1])) (by simp [sset_n, hn2]) ?_
      obtain ⟨T3, eT, hn3, r1, r5, r20, r29, r30, r36, r37, r38, r39⟩ : ∃ T3, T3 = sset (sset (sset (sset (sset (sset (sset (sset (sset T2 33 (.tup [k.nm, .ptr k.x 0])) 34 k.nm) 35 (.ptr k.x 0)) 6 k.nm) 7 (.ptr k.x 0)) 36 (.ptr (keyN (n + 1)) 0)) 37 k.nm) 38 (.ptr k.x 0)) 39 (.map M) ∧ T3.n = 43 ∧ T3.get 1 = .map M ∧ T3.get 5 = .ptr (keyN (n + 1)) 0 ∧ T3.get 20 = .map (keyN n) ∧ T3.get 29 = .map K ∧ T3.get 30 = .ptr it 0 ∧ T3.get 36 = .ptr (keyN (n + 1)) 0 ∧ T3.get 37 = k.nm ∧ T3.get 38 = .ptr k.x 0 ∧ T3.get 39 = .map M :=
        ⟨_, rfl, by simp [sset_n, hn2], by simp [sset_get, t1], by simp [sset_get, t5], by simp [sset_get, t20], by simp [sset_get, t29], by simp [sset_get, t30], by simp [sset_get], by simp [sset_get], by simp [sset_get], by simp [sset_get]⟩
      rw [← eT]
      clear eT
      refine good_call (f := 208) (args := [.ptr k.x 0, .map M]) (code := c208) rfl (x_call (by show [T3.get 38, T3.get 39] = _; rw [r38, r39])) (hs0 208) C.b1 ?_
      have out2 : ∀ b, (∀ q, n ≤ q → q < m → keyN q ≠ b) → b ≠ M → h2.get b = h1.get b := fun b hb hbM => by
        rw [g2, if_neg (by rw [eit]; exact hb _ (by omega) (by omega)), hh]
        unfold hAt
        rw [L.lkOld hd hb, if_neg (hb _ (by omega) (by omega)), if_neg (by rw [eit]; exact hb _ (by omega) (by omega)), if_neg (fun e => hbM e.symm)]; rfl
      have hM2 : h2.get M = some (.lmap (os1 ++ flatL (fun k => k.r.en) done)) := by
        rw [g2, if_neg nMit, hh]; unfold hAt
        rw [L.lkOld hd L.nM, if_neg nMky, if_neg nMit, if_pos rfl]; rfl
      have rdk : ∀ k ∈ ks, ∀ b ∈ k.r.rd, h2.get b = t.get b := fun k hk b hb => by
        obtain ⟨a, c, d⟩ := L.rdt k hk b hb
        rw [out2 b d c, a]
      refine enter_heap (h' := ⟨h2.t, keyN k.n⟩) (fun b => get_next h2 (keyN k.n) b) ?_
      refine spec k hk _ _ (os1 ++ flatL (fun k => k.r.en) done) rfl (fun b hb => by rw [get_next]; exact rdk k hk b hb) (by rw [get_next]; exact hM2) ?_ ?_ ?_
      · intro e he
        rcases List.mem_append.1 he with he | he
        · obtain ⟨b, cs', a, c, d, f⟩ := L.os e he
          refine ⟨b, cs', a, c k hk, ?_⟩
          rw [get_next, out2 b f (fun e => by rw [e, L.hM] at d; cases d)]; exact d
        · obtain ⟨k', hk', he⟩ := mem_flatL.1 he
          obtain ⟨b, cs', a, c, d⟩ := L.en k' (hd k' hk') e he
          refine ⟨b, cs', a, ?_, ?_⟩
          · have hne : k' ≠ k := fun e => hkd (e ▸ hk')
            rcases pairwise_ne L.rd (hd k' hk') hk hne with g | g
            · exact g b c
            · exact fun hb => g b hb c
          · rw [get_next, rdk k' (hd k' hk') b c]; exact d
      · intro q a c
        rw [get_next, g2, if_neg (by rw [eit]; exact keyN_ne (by omega) (by omega) (by omega)), hh]
        unfold hAt
        rw [L.lkNew hd hk hkd a c, if_neg (keyN_ne (by omega) (by omega) (by omega)), if_neg (by rw [eit]; exact keyN_ne (by omega) (by omega) (by omega)), if_neg (fun e => L.nM q (by omega) (by omega) e.symm)]
        exact L.fr q (by omega) (by omega)
      · intro h3 g3
        have g3 : ∀ b, h3.get b = orO (lk (k.r.lo ++ [(k.y, rootO 389 k.r.kd k.r.md k.r.dt k.n .nilPtr (.str 0 0))]) b) (if M = b then some (.lmap (os1 ++ flatL (fun k => k.r.en) done ++ k.r.en)) else h2.get b) := fun b => by rw [g3, get_next]; rfl
        refine good_back (d := 40) hX hF rfl (by rw [hn3]; decide) ?_
        refine good_call (f := 279) (args := [.ptr (keyN (n + 1)) 0, k.nm, .ptr k.y 0]) (code := c279) rfl (x_call (by
          show [(sset T3 40 (.ptr k.y 0)).get 36, (sset T3 40 (.ptr k.y 0)).get 37, (sset T3 40 (.ptr k.y 0)).get 40] = _
          simp [sset_get, r36, r37])) (hs0 279) C.b2 ?_
        have klo : ∀ b, (∀ q, k.n ≤ q → q < k.r.nx → keyN q ≠ b) → lk (k.r.lo ++ [(k.y, rootO 389 k.r.kd k.r.md k.r.dt k.n .nilPtr (.str 0 0))]) b = none := fun b hb => lk_none fun p hp => by
          rcases List.mem_append.1 hp with hp | hp
          · obtain ⟨q, a, c, _, e⟩ := L.lo k hk p hp; rw [e]; exact hb q a c
          · have : p = (k.y, rootO 389 k.r.kd k.r.md k.r.dt k.n .nilPtr (.str 0 0)) := by simpa using hp
            subst this; exact hb _ (by omega) (by omega)
        have klow : ∀ q, q < N0 → lk (k.r.lo ++ [(k.y, rootO 389 k.r.kd k.r.md k.r.dt k.n .nilPtr (.str 0 0))]) (keyN q) = none := fun q hq => klo _ fun p a c => keyN_ne (by omega) (by omega) (by omega)
        have lky : lk (k.r.lo ++ [(k.y, rootO 389 k.r.kd k.r.md k.r.dt k.n .nilPtr (.str 0 0))]) k.y = some (rootO 389 k.r.kd k.r.md k.r.dt k.n .nilPtr (.str 0 0)) := by
          rw [lk_append]
          show orO (if k.y = k.y then some _ else none) _ = _
          rw [if_pos rfl]; rfl
        have gY : h3.get (keyN (n + 1)) = some (rootO 389 kd md dt n .nilPtr (.str 0 0)) := by
          rw [g3, klow _ (by omega), if_neg (fun e => nMy e.symm), g2, if_neg (fun e => nyit e.symm), hh]; unfold hAt
          rw [L.lkLow hd (by omega), if_neg nky, if_neg (fun e => nyit e.symm), if_neg (fun e => nMy e.symm)]; exact L.hy
        have gKy : h3.get (keyN n) = some (.lmap (namesK done)) := by
          rw [g3, klow _ (by omega), if_neg (fun e => nMky e.symm), g2, if_neg (fun e => nkyit e.symm), hh]; unfold hAt
          rw [L.lkLow hd (by omega), if_pos rfl]; rfl
        have gN : h3.get k.y = some (rootO 389 k.r.kd k.r.md k.r.dt k.n .nilPtr (.str 0 0)) := by rw [g3, lky]; rfl
        refine add_good C hX hF gY gN gKy (keyN_ne (by omega) (by omega) (by omega)) (fun h' e he => ?_) ?_
        · rw [namesK_eq] at he
          obtain ⟨k', hk', rfl⟩ := List.mem_map.1 he
          have hne : k ≠ k' := fun e => hkd (e ▸ hk')
          refine eqT_str C.u9 ?_
          rcases pairwise_ne L.names hk (hd k' hk') hne with g | g
          · exact g
          · exact fun e => g ⟨e.1.symm, e.2.symm⟩
        · intro h4 g4
          refine good_back (d := 41) hX hF rfl (by simp [sset_n, hn3]) (ops_end ?_)
          refine Well.go hX hF ?_
          change Well P w0 f0 CS0 post (.go _ (.inLoop cX :: .inBlock 0 :: kEnd) (.mk 208 [] .normal cs) h4)
          refine Well.go hX hF ?_
          change Well P w0 f0 CS0 post (.go _ kTop (.mk 208 [] .normal cs) h4)
          refine ih k hkr s u hsu _ h4 ⟨by simp [sset_n, hn3], by simp [sset_get, r1], by simp [sset_get, r5], by simp [sset_get, r20], by simp [sset_get, r29], by simp [sset_get, r30]⟩ fun b => ?_
          have ob : flatL (Kid.objs 389 (keyN (n + 1))) (done ++ [k]) = flatL (Kid.objs 389 (keyN (n + 1))) done ++ (k.r.lo ++ [(k.y, rootO 389 k.r.kd k.r.md k.r.dt k.n (.ptr (keyN (n + 1)) 0) k.nm)]) := by
            rw [flatL_append]
            show _ ++ cat (cat k.r.lo _) [] = _
            rw [cat_eq, cat_eq, List.append_nil]
          have en : flatL (fun k => k.r.en) (done ++ [k]) = flatL (fun k => k.r.en) done ++ k.r.en := by
            rw [flatL_append]
            show _ ++ cat k.r.en [] = _
            rw [cat_eq, List.append_nil]
          have nmk : namesK (done ++ [k]) = namesK done ++ [(k.nm, .ptr k.y 0)] := by rw [namesK_eq, namesK_eq, List.map_append]; rfl
          unfold hAt
          rw [ob, en, nmk, lk_append, g4]
          by_cases b1 : keyN n = b
          · subst b1
            rw [if_pos rfl, if_pos rfl, L.lkLow hd (by omega)]
            have : lk (k.r.lo ++ [(k.y, rootO 389 k.r.kd k.r.md k.r.dt k.n (.ptr (keyN (n + 1)) 0) k.nm)]) (keyN n) = none := lk_none fun p hp => by
              rcases List.mem_append.1 hp with hp | hp
              · obtain ⟨q, a, c, _, e⟩ := L.lo k hk p hp; rw [e]; exact keyN_ne (by omega) (by omega) (by omega)
              · have : p = (k.y, rootO 389 k.r.kd k.r.md k.r.dt k.n (.ptr (keyN (n + 1)) 0) k.nm) := by simpa using hp
                subst this; exact keyN_ne (by omega) (by omega) (by omega)
            rw [this]; rfl
          · rw [if_neg b1, if_neg b1, lk_append]
            by_cases b2 : k.y = b
            · subst b2
              have e1 : lk [(k.y, rootO 389 k.r.kd k.r.md k.r.dt k.n (.ptr (keyN (n + 1)) 0) k.nm)] k.y = some (rootO 389 k.r.kd k.r.md k.r.dt k.n (.ptr (keyN (n + 1)) 0) k.nm) := by
                show (if k.y = k.y then some _ else none) = _; rw [if_pos rfl]
              rw [if_pos rfl, e1]; rfl
            · have e1 : lk [(k.y, rootO 389 k.r.kd k.r.md k.r.dt k.n (.ptr (keyN (n + 1)) 0) k.nm)] b = none := by
                show (if k.y = b then some _ else none) = _; rw [if_neg b2]
              have e3 : lk [(k.y, rootO 389 k.r.kd k.r.md k.r.dt k.n .nilPtr (.str 0 0))] b = none := by
                show (if k.y = b then some _ else none) = _; rw [if_neg b2]
              rw [if_neg b2, g3, lk_append, e1, e3]
              show orO (lk k.r.lo b) _ = orO (orO (lk k.r.lo b) _) _
              rw [orO_assoc (lk k.r.lo b)]
              congr 1
              by_cases b3 : M = b
              · subst b3
                rw [if_pos rfl, L.lkOld hd L.nM, if_neg nMit, if_pos rfl, List.append_assoc]; rfl
              · rw [if_neg b3, if_neg b3, g2]
                by_cases b4 : it = b
                · subst b4
                  rw [if_pos rfl, if_pos rfl, lit]; rfl
                · rw [if_neg b4, if_neg b4, hh]
                  unfold hAt
                  rw [if_neg b1, if_neg b4, if_neg b3]
  intro z
  induction z with
  | zero =>
    intro done rest hz hp
    have hr : rest = [] := List.length_eq_zero_iff.1 hz
    subst hr
    exact step done [] hp (fun k hk => by cases hk)
  | succ z ih =>
    intro done rest hz hp
    refine step done rest hp fun k hk s u e => ?_
    refine ih (done ++ [k]) (s ++ u) ?_ ?_
    · rw [e] at hz; simp at hz ⊢; omega
    · rw [e] at hp
      refine hp.trans ?_
      rw [List.append_assoc]
      exact (List.Perm.refl _).append (List.perm_middle)
end
section
theorem flatL_nodup {f : Kid → List Key} : ∀ {ks : List Kid}, (flatL f ks).Nodup → ks.Pairwise (fun k k' => ∀ b ∈ f k, b ∉ f k') ∧ ∀ k ∈ ks, (f k).Nodup
  | [], _ => ⟨.nil, fun k hk => by cases hk⟩
  | k :: r, h => by
    have h : (cat (f k) (flatL f r)).Nodup := h
    rw [cat_eq, List.nodup_append] at h
    obtain ⟨h1, h2⟩ := flatL_nodup h.2.1
    refine ⟨.cons (fun k' hk' b hb hb' => h.2.2 b hb b (mem_flatL.2 ⟨k', hk', hb'⟩) rfl) h1, fun k' hk' => ?_⟩
    cases hk' with
    | head => exact h.1
    | tail _ hk' => exact h2 k' hk'
theorem smap_less {N : Nat → Prop} {ρ : Rho} {L : Loc} {O : Option Obj} {es : List (AV × AV)} {n : Nat} {ck : Key} (h : ObjRel N ρ L O (.smap (stampN es n) ck)) : ObjRel N ρ L O (.lmap es) := by
  obtain ⟨a, E, Lc, _, e, ⟨es', es'', h1, h2, h3⟩, hst⟩ := h
  refine ⟨a, E, Lc.base, e, ⟨es', ?_, h3⟩, hst⟩
  have : ∀ {es : List (AV × AV)} {n : Nat} {es'' : List (AV × AV × Nat)}, KsRel ρ (stampN es n) es'' → es''.map (fun e => (e.1, e.2.1)) = es := by
    intro es
    induction es with
    | nil => intro n es'' h; cases h; rfl
    | cons e r ih =>
      intro n es'' h
      cases h with
      | cons k v b L r' R hb hr => show (e.1, e.2) :: R.map _ = e :: r; rw [ih hr]
  rw [← this h1]
  exact h2.map _
theorem lmap_less {N : Nat → Prop} {ρ : Rho} {L : Loc} {O : Option Obj} {es es' : List (AV × AV)} (hp : es.Perm es') (h : ObjRel N ρ L O (.lmap es)) : ObjRel N ρ L O (.lmap es') := by
  obtain ⟨a, E, c, e, ⟨x, h1, h2⟩, hst⟩ := h
  exact ⟨a, E, c, e, ⟨x, h1.trans hp, h2⟩, hst⟩
theorem LoopH.lkKid {t : RT AObj} {M K : Key} {n N0 m : Nat} {it ck : Key} {os1 : List (AV × AV)} {ks : List Kid} {h1 : Heap} {kd md dt : AV} (L : LoopH t M K n N0 m it ck os1 ks h1 kd md dt) :
    ∀ {done : List Kid}, done.Nodup → (∀ k ∈ done, k ∈ ks) → ∀ {k : Kid}, k ∈ done → ∀ {q : Nat}, k.n ≤ q → q < k.r.nx → lk (flatL (Kid.objs 389 (keyN (n + 1))) done) (keyN q) = lk (Kid.objs 389 (keyN (n + 1)) k) (keyN q)
  | [], _, _, _, hk, _, _, _ => by cases hk
  | a :: r, hn, hd, k, hk, q, h1, h2 => by
    rw [List.nodup_cons] at hn
    show lk (cat (Kid.objs 389 (keyN (n + 1)) a) (flatL (Kid.objs 389 (keyN (n + 1))) r)) (keyN q) = _
    rw [cat_eq, lk_append]
    cases hk with
    | head => rw [L.lkNew (fun k hk => hd k (List.mem_cons_of_mem _ hk)) (hd _ (List.mem_cons_self ..)) hn.1 h1 h2]; rfl
    | tail _ hk =>
      rw [L.lkKid hn.2 (fun k hk => hd k (List.mem_cons_of_mem _ hk)) hk h1 h2]
      have hne : a ≠ k := fun e => hn.1 (e ▸ hk)
      have ha := hd a (List.mem_cons_self ..)
      have hk' := hd k (List.mem_cons_of_mem _ hk)
      have : lk (Kid.objs 389 (keyN (n + 1)) a) (keyN q) = none := lk_none fun p hp => by
        obtain ⟨p', c, d, e⟩ := objs_range (L.lo a ha) (L.kid a ha).1 p hp
        have g1 := L.kid a ha; have g2 := L.kid k hk'; have := L.lt
        rw [e]
        rcases L.sep ha hk' hne with g | g <;> exact keyN_ne (by omega) (by omega) (by omega)
      rw [this, orO_none]
end
section
variable {P : Program} {w0 : Base} {f0 : Nat} {CS0 : List Frame} [H : Hook] {post : AV → Heap → Bool}
set_option maxHeartbeats 4000000 in
theorem copied_spec (C : CpFacts P) (hX : Env P w0) (hF : P.follows .mixedOrders = true) (hs0 : ∀ f, sumKind f = 0) {t : RT AObj} {M : Key} : ∀ (d : Nat) (x : Key) (n : Nat) (r : CpR), cpN 389 t d x n = some r → r.rd.Nodup → M ∉ r.rd → r.nx < 32768 → CopySpec P w0 f0 CS0 post t M x n r
  | 0, _, _, _, h, _, _, _ => by cases h
  | d + 1, x, n, r, h, hnd, hMr, hnx => by
    have ih := copied_spec C hX hF hs0 (t := t) (M := M) d
    obtain ⟨kd, md, dt, K, u0, n0, es, ks, m, hx, pk, pm, pd, hK, hk, hnm, rfl⟩ := cpN_some h
    dsimp only at hnd hMr hnx ⊢
    obtain ⟨s1, s2, s3, s4, s5⟩ := cpKids_spec (fun x n q hq => by have := cpN_lt hq; omega) hk
    intro cs hh os hn hrd hM hos hfr g
    dsimp only at hrd hos hfr g
    rw [List.nodup_cons, List.nodup_cons] at hnd
    obtain ⟨nd1, nd2, nd3⟩ := hnd
    obtain ⟨rdp, rdn⟩ := flatL_nodup nd3
    have hMx : M ≠ x := fun e => hMr (e ▸ List.mem_cons_self ..)
    have hMK : M ≠ K := fun e => hMr (e ▸ List.mem_cons_of_mem _ (List.mem_cons_self ..))
    have hxK : x ≠ K := fun e => nd1 (e ▸ List.mem_cons_self ..)
    have gx : hh.get x = some (.cells 389 [kd, md, dt, .map K, u0, n0] false 0) := (hrd x (List.mem_cons_self ..)).trans hx
    have gK : hh.get K = some (.lmap es) := (hrd K (List.mem_cons_of_mem _ (List.mem_cons_self ..))).trans hK
    have old : ∀ {b o}, hh.get b = some o → ∀ q, n ≤ q → q < m → keyN q ≠ b := fun {b o} hb q a c e => by rw [← e, hfr q a c] at hb; cases hb
    refine pre_good C hX hF hn (by omega) gx pk pm pd gK hM hMx hMK (fun e he => ?_) (fun q a b => hfr q a (by omega)) ?_
    · obtain ⟨b, cs', a, c, f⟩ := hos e he
      exact ⟨b, cs', a, fun e => c (e ▸ List.mem_cons_self ..), f⟩
    intro T h' tn t1 t5 t20 t29 t30 f1 f2 f3 f4 f5 f6 f7
    have rdo : ∀ k ∈ ks, ∀ b ∈ k.r.rd, ∃ o, hh.get b = some o := fun k hk b hb => by
      obtain ⟨o, e⟩ := cpN_read (s3 k hk).1 b hb
      exact ⟨o, by rw [hrd b (List.mem_cons_of_mem _ (List.mem_cons_of_mem _ (mem_flatL.2 ⟨k, hk, hb⟩)))]; exact e⟩
    have L : LoopH t M K n (n + es.length + 4) m (keyN (n + es.length + 3)) (keyN (n + es.length + 2)) (os ++ [(.ptr x 0, .ptr (keyN (n + 1)) 0)]) ks h' kd md dt := {
      lt := hnx
      nm := s1
      n0 := by omega
      itn := ⟨_, rfl, by omega, by omega⟩
      kid := fun k hk => by obtain ⟨a, b, c, d, e⟩ := s3 k hk; have := cpN_lt a; exact ⟨this, b, c, by omega⟩
      lo := fun k hk => cpN_range (s3 k hk).1
      pair := s5
      names := namesOk_spec hnm
      rd := rdp
      rdt := fun k hk b hb => by
        obtain ⟨o, ho⟩ := rdo k hk b hb
        have hm : b ∈ flatL (fun k => k.r.rd) ks := mem_flatL.2 ⟨k, hk, hb⟩
        have hbK : b ≠ K := fun e => nd2 (e ▸ hm)
        have hbM : b ≠ M := fun e => hMr (e ▸ List.mem_cons_of_mem _ (List.mem_cons_of_mem _ hm))
        exact ⟨by rw [f7 b hbK hbM fun q a c => old ho q a (by omega)]; exact hrd b (List.mem_cons_of_mem _ (List.mem_cons_of_mem _ hm)), hbM, old ho⟩
      en := fun k hk => cpN_en (s3 k hk).1
      os := fun e he => by
        rcases List.mem_append.1 he with he | he
        · obtain ⟨b, cs', a, c, f⟩ := hos e he
          refine ⟨b, cs', a, fun k hk hb => c (List.mem_cons_of_mem _ (List.mem_cons_of_mem _ (mem_flatL.2 ⟨k, hk, hb⟩))), ?_, old f⟩
          rw [f7 b (fun e => by rw [e, gK] at f; cases f) (fun e => by rw [e, hM] at f; cases f) fun q a c => old f q a (by omega)]; exact f
        · have : e = (.ptr x 0, .ptr (keyN (n + 1)) 0) := by simpa using he
          subst this
          refine ⟨x, [kd, md, dt, .map K, u0, n0], rfl, fun k hk hb => nd1 (List.mem_cons_of_mem _ (mem_flatL.2 ⟨k, hk, hb⟩)), ?_, old gx⟩
          rw [f7 x hxK (fun e => hMx e.symm) fun q a c => old gx q a (by omega)]; exact gx
      hy := f2
      hM := f5
      hK := by rw [f4, s4]
      nM := old hM
      nK := old gK
      fr := fun q a b => by
        rw [f7 _ (old gK q (by omega) b) (old hM q (by omega) b) fun p c d => keyN_ne (by omega) (by omega) (by omega)]
        exact hfr q (by omega) b }
    have hks : ks.Nodup := s5.imp fun {a b} h e => by subst e; omega
    have ages : keysS (stampN es (n + 2)) = agesK ks := by rw [s4]; exact keysS_map _ (fun _ => rfl) ks
    refine loop_good C hX hF hs0 L (fun k hk => ih k.x k.n k.r (s3 k hk).1 (rdn k hk) (fun h => hMr (List.mem_cons_of_mem _ (List.mem_cons_of_mem _ (mem_flatL.2 ⟨k, hk, h⟩)))) (by have := (s3 k hk).2.2.1; omega)) (fun done T2 hE hp hT hEq => ?_) ks.length [] ks rfl (List.Perm.refl _) T h' ⟨tn, t1, t5, t20, t29, t30⟩ (fun b => ?_)
    · have hd : ∀ k ∈ done, k ∈ ks := fun k hk => hp.mem_iff.2 hk
      have nMit : keyN (n + es.length + 3) ≠ M := old hM _ (by omega) (by omega)
      have nMky : keyN n ≠ M := old hM _ (by omega) (by omega)
      have nMy : keyN (n + 1) ≠ M := old hM _ (by omega) (by omega)
      have nKit : keyN (n + es.length + 3) ≠ K := old gK _ (by omega) (by omega)
      have nKky : keyN n ≠ K := old gK _ (by omega) (by omega)
      have nkyit : keyN n ≠ keyN (n + es.length + 3) := keyN_ne (by omega) (by omega) (by omega)
      have eK : hE.get K = some (.smap (stampN es (n + 2)) (keyN (n + es.length + 2))) := by
        rw [hEq]; unfold hAt; rw [L.lkOld hd L.nK, if_neg nKky, if_neg nKit, if_neg hMK]; exact f4
      have eit : hE.get (keyN (n + es.length + 3)) = some (.smiter K (agesK ks) (agesK done) (keyN (n + es.length + 2))) := by
        rw [hEq]; unfold hAt; rw [L.lkLow hd (by omega), if_neg nkyit, if_pos rfl]; rfl
      have eM : hE.get M = some (.lmap (os ++ [(.ptr x 0, .ptr (keyN (n + 1)) 0)] ++ flatL (fun k => k.r.en) done)) := by
        rw [hEq]; unfold hAt; rw [L.lkOld hd L.nM, if_neg nMky, if_neg nMit, if_pos rfl]; rfl
      have eky : hE.get (keyN n) = some (.lmap (namesK done)) := by
        rw [hEq]; unfold hAt; rw [L.lkLow hd (by omega), if_pos rfl]; rfl
      refine Well.less (b := K) (o' := .lmap es) rfl ⟨29, .inr hT.s29⟩ eK rfl (fun _ _ _ _ => smap_less) ?_
      refine Well.less (b := keyN (n + es.length + 3)) (o' := .dead) rfl ⟨30, .inl ⟨0, hT.s30⟩⟩ (by rw [put_get, if_neg (fun e => nKit e.symm)]; exact eit) rfl (fun _ _ _ _ _ => trivial) ?_
      refine Well.less (b := M) (o' := .lmap (os ++ [(.ptr x 0, .ptr (keyN (n + 1)) 0)] ++ flatL (fun k => k.r.en) ks)) rfl ⟨1, .inr hT.s1⟩ (by rw [put_get, if_neg nMit, put_get, if_neg (fun e => hMK e.symm)]; exact eM) rfl (fun _ _ _ _ => lmap_less ((flatL_perm hp.symm).append_left _)) ?_
      refine Well.less (b := keyN n) (o' := .lmap (namesK ks)) rfl ⟨20, .inr hT.s20⟩ (by rw [put_get, if_neg (fun e => nMky e.symm), put_get, if_neg (fun e => nkyit e.symm), put_get, if_neg (fun e => nKky e.symm)]; exact eky) rfl (fun _ _ _ _ => lmap_less (by rw [namesK_eq, namesK_eq]; exact (hp.symm).map _)) ?_
      refine Well.reg hX hF ?_
      refine good_val rfl rfl (x_move (v := .ptr (keyN (n + 1)) 0) (by simp [ev_tmp, hT.s5])) (by simp [hT.n]) ?_
      refine good_val rfl rfl (x_assign (v := .ptr (keyN (n + 1)) 0) (by simp [ev_tmp, sset_get])) (by simp [sset_n, hT.n]) (ops_end ?_)
      refine ret_good hX hF C.r1 (by simp [sset_get]) (g _ fun b => ?_)
      have one : ∀ (a : Key) (o : AObj), lk [(a, o)] b = if a = b then some o else none := fun a o => rfl
      have hdn : done.Nodup := hp.nodup_iff.1 hks
      have nyit : keyN (n + 1) ≠ keyN (n + es.length + 3) := keyN_ne (by omega) (by omega) (by omega)
      have nky : keyN n ≠ keyN (n + 1) := keyN_ne (by omega) (by omega) (by omega)
      have nKy : keyN (n + 1) ≠ K := old gK _ (by omega) (by omega)
      rw [lk_append, lk_append, lk_append, one, one, put_get, put_get, put_get, put_get]
      by_cases b1 : keyN n = b
      · rw [if_pos b1, if_neg (fun e => nky (b1.trans e.symm)), if_pos b1]; rfl
      rw [if_neg b1, if_neg b1]
      by_cases b2 : keyN (n + 1) = b
      · subst b2
        rw [if_pos rfl, if_neg (fun e => nMy e.symm), if_neg (fun e => nyit e.symm), if_neg (fun e => nKy e.symm), hEq]
        unfold hAt
        rw [L.lkLow hd (by omega), if_neg nky, if_neg (fun e => nyit e.symm), if_neg (fun e => nMy e.symm)]
        exact f2
      rw [if_neg b2]
      show _ = orO (orO (lk (flatL (Kid.objs 389 (keyN (n + 1))) ks) b) (lk (deadL (n + 2) (es.length + 2)) b)) _
      have dOut : (∀ q, n + 2 ≤ q → q < n + es.length + 4 → keyN q ≠ b) → lk (deadL (n + 2) (es.length + 2)) b = none := fun hb => lk_none fun p hp => by
        obtain ⟨q, a, c, rfl⟩ := deadL_mem hp
        exact hb q a (by omega)
      by_cases b3 : M = b
      · subst b3
        rw [if_pos rfl, L.lkOld (fun k hk => hk) L.nM, dOut (fun q a c => old hM q (by omega) (by omega)), if_pos rfl, List.append_assoc]; rfl
      rw [if_neg b3]
      by_cases b4 : K = b
      · subst b4
        rw [if_neg nKit, if_pos rfl, L.lkOld (fun k hk => hk) L.nK, dOut (fun q a c => old gK q (by omega) (by omega)), if_neg b3, gK]; rfl
      have low : ∀ q, n + 2 ≤ q → q < n + es.length + 4 → keyN q = b → orO (orO (lk (flatL (Kid.objs 389 (keyN (n + 1))) ks) b) (lk (deadL (n + 2) (es.length + 2)) b)) (if M = b then some (.lmap (os ++ (.ptr x 0, .ptr (keyN (n + 1)) 0) :: flatL (fun k => k.r.en) ks)) else hh.get b) = some .dead := fun q a c e => by
        subst e
        rw [L.lkLow (fun k hk => hk) (by omega), deadL_lk (N := n + es.length + 4) (by omega) (by omega) a (by omega)]; rfl
      by_cases b5 : keyN (n + es.length + 3) = b
      · rw [if_pos b5, low _ (by omega) (by omega) b5]
      rw [if_neg b5, if_neg b4, hEq]
      unfold hAt
      rw [if_neg b1, if_neg b5, if_neg b3]
      by_cases b6 : ∃ q, n + 2 ≤ q ∧ q < n + es.length + 3 ∧ keyN q = b
      · obtain ⟨q, a, c, e⟩ := b6
        rw [low q a (by omega) e, ← e, L.lkLow hd (by omega), f6 q a c]; rfl
      have out4 : ∀ q, n ≤ q → q < n + es.length + 4 → keyN q ≠ b := fun q a c e => by
        rcases Nat.lt_or_ge q (n + 2) with h | h
        · rcases Nat.lt_or_ge q (n + 1) with h' | h'
          · exact b1 (by rw [← e]; congr 1; omega)
          · exact b2 (by rw [← e]; congr 1; omega)
        · rcases Nat.lt_or_ge q (n + es.length + 3) with h' | h'
          · exact b6 ⟨q, h, h', e⟩
          · exact b5 (by rw [← e]; congr 1; omega)
      rw [dOut fun q a c => out4 q (by omega) c, orO_none, if_neg b3, f7 b (fun e => b4 e.symm) (fun e => b3 e.symm) out4]
      congr 1
      by_cases b7 : ∃ k ∈ ks, ∃ q, k.n ≤ q ∧ q < k.r.nx ∧ keyN q = b
      · obtain ⟨k, hk, q, a, c, e⟩ := b7
        subst e
        rw [L.lkKid hdn hd (hp.mem_iff.1 hk) a c, L.lkKid hks (fun k hk => hk) hk a c]
      · rw [L.lkOut hd fun k hk q a c e => b7 ⟨k, hd k hk, q, a, c, e⟩, L.lkOut (fun k hk => hk) fun k hk q a c e => b7 ⟨k, hk, q, a, c, e⟩]
    · unfold hAt
      show h'.get b = (if keyN n = b then some (.lmap []) else if keyN (n + es.length + 3) = b then some (.smiter K (agesK ks) [] (keyN (n + es.length + 2))) else if M = b then some (.lmap ((os ++ [(.ptr x 0, .ptr (keyN (n + 1)) 0)]) ++ [])) else h'.get b)
      by_cases b1 : keyN n = b
      · rw [if_pos b1, ← b1, f1]
      · rw [if_neg b1]
        by_cases b2 : keyN (n + es.length + 3) = b
        · rw [if_pos b2, ← b2, f3, ages]
        · rw [if_neg b2]
          by_cases b3 : M = b
          · rw [if_pos b3, ← b3, f5, List.append_nil]
          · rw [if_neg b3]
end
def N8.of {α : Type} (f : D8 → α) : N8 α := ⟨f .d0, f .d1, f .d2, f .d3, f .d4, f .d5, f .d6, f .d7⟩
theorem N8.sel_of {α : Type} (f : D8 → α) (d : D8) : (sel d).f (N8.of f) = f d := by cases d <;> rfl
def RT.of {α : Type} (f : Key → Option α) : RT α := ⟨N8.of fun e => N8.of fun d => N8.of fun c => N8.of fun b => N8.of fun a => f ⟨a, b, c, d, e⟩⟩
theorem RT.get_of {α : Type} (f : Key → Option α) (k : Key) : (RT.of f).get k = f k := by
  obtain ⟨a, b, c, d, e⟩ := k
  change (sel a).f ((sel b).f ((sel c).f ((sel d).f ((sel e).f (N8.of fun e => N8.of fun d => N8.of fun c => N8.of fun b => N8.of fun a => f ⟨a, b, c, d, e⟩))))) = _
  rw [N8.sel_of, N8.sel_of, N8.sel_of, N8.sel_of, N8.sel_of]
def memY (b : Key) : List Key → Bool
  | [] => false
  | a :: r => cond (Key.same a b) true (memY b r)
theorem memY_iff {b : Key} : ∀ {l : List Key}, memY b l = true ↔ b ∈ l
  | [] => by simp [memY]
  | a :: r => by
    unfold memY
    cases h : Key.same a b with
    | true => have := (Key.same_iff a b).1 h; subst this; simp
    | false =>
      have hne : a ≠ b := fun e => by rw [(Key.same_iff a b).2 e] at h; cases h
      rw [cond_false, memY_iff]
      constructor
      · exact fun h => List.mem_cons_of_mem _ h
      · intro h
        cases h with
        | head => exact absurd rfl hne
        | tail _ h => exact h
def nodupY : List Key → Bool
  | [] => true
  | a :: r => cond (memY a r) false (nodupY r)
theorem nodupY_spec : ∀ {l : List Key}, nodupY l = true → l.Nodup
  | [], _ => List.nodup_nil
  | a :: r, h => by
    have h : cond (memY a r) false (nodupY r) = true := h
    cases hm : memY a r with
    | true => rw [hm] at h; cases h
    | false =>
      rw [hm] at h
      exact List.nodup_cons.2 ⟨(fun hb => by rw [memY_iff.2 hb] at hm; cases hm), nodupY_spec h⟩
noncomputable def freeN (h : Heap) : Nat → Nat → Bool
  | _, 0 => true
  | n, k + 1 => match h.get (keyN n) with
    | none => freeN h (n + 1) k
    | some _ => false
theorem freeN_spec {h : Heap} : ∀ {k n : Nat}, freeN h n k = true → ∀ q, n ≤ q → q < n + k → h.get (keyN q) = none
  | 0, n, _, q, a, b => by omega
  | k + 1, n, hf, q, a, b => by
    unfold freeN at hf
    cases hg : h.get (keyN n) with
    | some o => rw [hg] at hf; cases hf
    | none =>
      rw [hg] at hf
      by_cases e : q = n
      · subst e; exact hg
      · exact freeN_spec hf q (by omega) (by omega)
def isNode (tn : Nat) (o : Option AObj) : Bool := match o with
  | some (.cells e _ false 0) => Nat.beq e tn
  | _ => false
noncomputable def osOk (tn : Nat) (h : Heap) (rd : List Key) : List (AV × AV) → Bool
  | [] => true
  | e :: r => match e.1 with
    | .ptr b 0 => cond (memY b rd) false (cond (isNode tn (h.get b)) (osOk tn h rd r) false)
    | _ => false
theorem osOk_spec {tn : Nat} {h : Heap} {rd : List Key} : ∀ {os : List (AV × AV)}, osOk tn h rd os = true → ∀ e ∈ os, ∃ b cs, e.1 = .ptr b 0 ∧ b ∉ rd ∧ h.get b = some (.cells tn cs false 0)
  | [], _, e, he => by cases he
  | x :: r, ho, e, he => by
    unfold osOk at ho
    split at ho
    · rename_i b hx
      cases hm : memY b rd with
      | true => rw [hm] at ho; cases ho
      | false =>
        rw [hm, cond_false] at ho
        obtain ⟨h1, h2⟩ := condB ho
        cases he with
        | head =>
          unfold isNode at h1
          split at h1
          · rename_i e' cs hg
            have := Nat.eq_of_beq_eq_true h1; subst this
            exact ⟨b, cs, hx, (fun hb => by rw [memY_iff.2 hb] at hm; cases hm), hg⟩
          · cases h1
        | tail _ he => exact osOk_spec h2 e he
    · cases ho
def osOf (o : Option AObj) : Option (List (AV × AV)) := match o with
  | some (.lmap os) => some os
  | some (.map [] _) => some []
  | _ => none
noncomputable def cpRes (tn : Nat) (M : Key) (n : Nat) (os : List (AV × AV)) (r : CpR) (h : Heap) : AV × Heap := (.ptr (keyN (n + 1)) 0, ⟨(putObjs (cat r.lo [(keyN (n + 1), rootO tn r.kd r.md r.dt n .nilPtr (.str 0 0))]) (h.put M (.lmap (cat os r.en)))).t, keyN r.nx⟩)
noncomputable def cpChk (tn : Nat) (M : Key) (n : Nat) (os : List (AV × AV)) (r : CpR) (h : Heap) : Bool := cond (nodupY r.rd) (cond (memY M r.rd) false (cond (Nat.blt r.nx 32768) (cond (osOk tn h r.rd os) (freeN h n (r.nx - n)) false) false)) false
noncomputable def cpGo (tn : Nat) (M : Key) (n : Nat) (os : Option (List (AV × AV))) (r : Option CpR) (h : Heap) : Option (AV × Heap) := match os, r with
  | some os, some r => cond (cpChk tn M n os r h) (some (cpRes tn M n os r h)) none
  | _, _ => none
noncomputable def cpP (tn d : Nat) (args : List AV) (h : Heap) : Option (AV × Heap) := match args with
  | [.ptr x 0, .map M] => cpGo tn M (knum h.next) (osOf (h.get M)) (cpN tn h.t d x (knum h.next)) h
  | _ => none
theorem cpP_some {tn d : Nat} {args : List AV} {h : Heap} {v : AV} {h' : Heap} (e : cpP tn d args h = some (v, h')) : ∃ x M os r, args = [.ptr x 0, .map M] ∧ (h.get M = some (.lmap os) ∨ ∃ c, h.get M = some (.map [] c) ∧ os = []) ∧ cpN tn h.t d x (knum h.next) = some r ∧ r.rd.Nodup ∧ M ∉ r.rd ∧ r.nx < 32768 ∧
    (∀ e ∈ os, ∃ b cs, e.1 = .ptr b 0 ∧ b ∉ r.rd ∧ h.get b = some (.cells tn cs false 0)) ∧ (∀ q, knum h.next ≤ q → q < r.nx → h.get (keyN q) = none) ∧ v = .ptr (keyN (knum h.next + 1)) 0 ∧
      (∀ b, h'.get b = orO (lk (r.lo ++ [(keyN (knum h.next + 1), rootO tn r.kd r.md r.dt (knum h.next) .nilPtr (.str 0 0))]) b) (if M = b then some (.lmap (os ++ r.en)) else h.get b)) := by
  unfold cpP at e
  split at e
  · rename_i x M
    unfold cpGo at e
    split at e
    · rename_i os r ho hr
      cases hc : cpChk tn M (knum h.next) os r h with
      | false => rw [hc] at e; cases e
      | true =>
        rw [hc, cond_true] at e
        unfold cpChk at hc
        obtain ⟨c1, hc⟩ := condB hc
        cases hm : memY M r.rd with
        | true => rw [hm] at hc; cases hc
        | false =>
        rw [hm, cond_false] at hc
        obtain ⟨c2, hc⟩ := condB hc
        obtain ⟨c3, c4⟩ := condB hc
        unfold cpRes at e
        injection e with e
        injection e with e1 e2
        refine ⟨x, M, os, r, rfl, ?_, hr, nodupY_spec c1, (fun hb => by rw [memY_iff.2 hb] at hm; cases hm), blt_lt c2, osOk_spec c3, fun q a b => freeN_spec c4 q a (by omega), e1.symm, fun b => ?_⟩
        · unfold osOf at ho
          split at ho
          · rename_i os' hg; injection ho with ho; subst ho; exact .inl hg
          · rename_i c hg; injection ho with ho; exact .inr ⟨c, hg, ho.symm⟩
          · cases ho
        · rw [← e2]
          have : ∀ (t : Heap) (k : Key), (Heap.mk t.t k).get b = t.get b := fun t k => get_next t k b
          rw [this, putObjs_get, put_get, cat_eq, cat_eq]
    · cases e
  · cases e
section
variable {P : Program}
theorem rowsOk_none : @RowsOk noHook P := by
  intro f fd _ _ impl h
  cases h
theorem cpN_mapped {tn : Nat} {b0 : Base} {ρ : Rho} {h : Heap} {w : World} (hs : Sim b0 ρ h w) : ∀ {d : Nat} {x : Key} {n : Nat} {r : CpR}, cpN tn h.t d x n = some r → (∃ L, ρ x = some L) → ∀ b ∈ r.rd, ∃ L, ρ b = some L
  | 0, _, _, _, h, _ => by cases h
  | d + 1, x, n, r, hc, ⟨L, hL⟩ => by
    obtain ⟨kd, md, dt, K, u0, n0, es, ks, m, hx, _, _, _, hK, hk, _, rfl⟩ := cpN_some hc
    obtain ⟨_, _, h3, h4, _⟩ := cpKids_spec (fun x n q hq => by have := cpN_lt hq; omega) hk
    have hx' : h.get x = some (.cells tn [kd, md, dt, .map K, u0, n0] false 0) := by cases h; exact hx
    have hK' : h.get K = some (.lmap es) := by cases h; exact hK
    obtain ⟨o, ho, _, hr⟩ := hs.obj x L hL
    rw [hx'] at ho; injection ho with ho; subst ho
    obtain ⟨LK, hLK⟩ : ∃ L, ρ K = some L := by
      obtain ⟨_, C, q, _, _, _, ⟨_, h1⟩, _⟩ := hr
      generalize (C.toList.drop L.base).take _ = V at h1
      cases h1 with | cons _ _ _ _ _ h1 =>
      cases h1 with | cons _ _ _ _ _ h1 =>
      cases h1 with | cons _ _ _ _ _ h1 =>
      cases h1 with | cons _ _ _ _ hv h1 =>
      cases hv with | map _ L e => exact ⟨L, e⟩
    obtain ⟨oK, hoK, _, hrK⟩ := hs.obj K LK hLK
    rw [hK'] at hoK; injection hoK with hoK; subst hoK
    have kids : ∀ e ∈ es, ∀ y, e.2 = .ptr y 0 → ∃ L, ρ y = some L := fun e he y hy => by
      obtain ⟨_, E, c, _, ⟨es', hp, hE⟩, _⟩ := hrK
      obtain ⟨z, hz, ez⟩ := List.mem_map.1 (hp.mem_iff.2 he)
      obtain ⟨A, V, _, r2⟩ := erel_mem hE z hz
      have : z.2.1 = .ptr y 0 := by rw [← hy, ← ez]
      rw [this] at r2
      cases r2 with | ptr _ _ L e => exact ⟨L, e⟩
    intro b hb
    dsimp only at hb
    rcases List.mem_cons.1 hb with rfl | hb
    · exact ⟨L, hL⟩
    · rcases List.mem_cons.1 hb with rfl | hb
      · exact ⟨LK, hLK⟩
      · obtain ⟨k, hk1, hb⟩ := mem_flatL.1 hb
        refine cpN_mapped hs (h3 k hk1).1 ?_ b hb
        have : ∀ {es : List (AV × AV)} {n a : Nat} {ks : List Kid} {m : Nat}, cpKids (cpN tn h.t d) es n a = some (ks, m) → ∀ k ∈ ks, ∃ e ∈ es, e.2 = .ptr k.x 0 := by
          intro es
          induction es with
          | nil => intro n a ks m h k hk; obtain ⟨rfl, _⟩ := cpKids_nil h; cases hk
          | cons e r ih =>
            intro n a ks m h k hk
            obtain ⟨l, c, x, q, ks', rfl, hq, hk2, rfl⟩ := cpKids_cons h
            cases hk with
            | head => exact ⟨_, List.mem_cons_self .., rfl⟩
            | tail _ hk => obtain ⟨e, he, e2⟩ := ih hk2 k hk; exact ⟨e, List.mem_cons_of_mem _ he, e2⟩
        obtain ⟨e, he, e2⟩ := this hk k hk1
        exact kids e he _ e2
open Classical in
theorem copied_prim (C : CpFacts P) (hF : P.follows .mixedOrders = true) (h64 : P.globals.size ≤ 64) {laid : List (Nat × AObj)} {tot : Nat → Nat} {b : Base} (hW : b.Keeps P laid tot) (d : Nat) : PrimOk P b 208 (cpP 389 d) := by
  intro ρ h w args A v h' hs hr he
  obtain ⟨x, M, os, r, rfl, hM, hc, hnd, hMr, hnx, hos, hfr, rfl, hh'⟩ := cpP_some he
  obtain ⟨Lx, hLx⟩ : ∃ L, ρ x = some L := by
    cases hr with | cons _ _ _ _ h1 h2 => cases h1 with | ptr _ _ L e => exact ⟨L, e⟩
  obtain ⟨LM, hLM⟩ : ∃ L, ρ M = some L := by
    cases hr with | cons _ _ _ _ h1 h2 => cases h2 with | cons _ _ _ _ h1 h2 => cases h1 with | map _ L e => exact ⟨L, e⟩
  have hrd := cpN_mapped hs hc ⟨Lx, hLx⟩
  obtain ⟨hm, ehm⟩ : ∃ hm, hm = h.put M (.lmap os) := ⟨_, rfl⟩
  have gm : ∀ k, hm.get k = if M = k then some (.lmap os) else h.get k := fun k => by rw [ehm, put_get]
  have hsm : Sim b ρ hm w := by
    rcases hM with hM | ⟨c, hM, rfl⟩
    · refine hs.sameGet fun k => ?_
      rw [gm]
      by_cases e : M = k
      · subst e; rw [if_pos rfl, hM]
      · rw [if_neg e]
    · rw [ehm]
      refine hs.less hM rfl fun L _ ho => ?_
      obtain ⟨a, E, e, hE⟩ := ho
      have hE0 : E.toList = [] := by
        generalize E.toList = l at hE
        cases hE; rfl
      exact ⟨a, E, c, e, ⟨[], .refl _, by rw [hE0]; exact .nil⟩, by rw [hE0]; exact ⟨(fun e he => by cases he), List.nodup_nil⟩⟩
  obtain ⟨h0, eh0⟩ : ∃ h0 : Heap, h0 = ⟨RT.of fun k => match ρ k with | some _ => hm.get k | none => none, keyN (knum h.next)⟩ := ⟨_, rfl⟩
  have g0 : ∀ k, h0.get k = match ρ k with | some _ => hm.get k | none => none := fun k => by rw [eh0]; exact RT.get_of _ k
  have g0s : ∀ {k L}, ρ k = some L → h0.get k = hm.get k := fun {k L} e => by rw [g0, e]
  have g0n : ∀ {k}, ρ k = none → h0.get k = none := fun {k} e => by rw [g0, e]
  let b1 : Base := ⟨w, b.F, fun k e => Nat.lt_of_lt_of_le (b.lt k e) hs.size, ρ⟩
  have hs1 : Sim b1 ρ h0 w := ⟨rfl, rfl, Nat.le_refl _, fun _ _ => rfl, Sub.refl _, fun k L e => by rw [g0s e]; exact hsm.obj k L e, fun k k' L L' o o' e e' g g' => hsm.inj k k' L L' o o' e e' (by rw [← g0s e]; exact g) (by rw [← g0s e']; exact g')⟩
  have hgl : Glob P ρ := (start_glob h64).mono (hW.names.trans hs.sub)
  have hX : @Env P noHook b1 := @Env.mk P noHook b1 (@extOk_of_rows noHook P rowsOk_none) (sumOk_none b1)
  intro CS
  have hre := @enter_reach P b1 208 CS ρ h0 w [] 208 _ _ .normal [] CS _ trivial hs1 (Resv.nil _ _) hgl .nil hr C.b1 rfl
  obtain ⟨L, eL⟩ : ∃ L, L = r.lo ++ [(keyN (knum h.next + 1), rootO 389 r.kd r.md r.dt (knum h.next) .nilPtr (.str 0 0))] := ⟨_, rfl⟩
  rw [← eL] at hh'
  have hrange : ∀ p ∈ L, ∃ q, knum h.next ≤ q ∧ q < r.nx ∧ p.1 = keyN q := fun p hp => by
    rw [eL] at hp
    rcases List.mem_append.1 hp with hp | hp
    · obtain ⟨q, a, c, _, e⟩ := cpN_range hc p hp; exact ⟨q, a, c, e⟩
    · have := cpN_lt hc
      have : p = (keyN (knum h.next + 1), rootO 389 r.kd r.md r.dt (knum h.next) .nilPtr (.str 0 0)) := by simpa using hp
      subst this
      exact ⟨knum h.next + 1, by omega, by omega, rfl⟩
  have hnM : ∀ q, knum h.next ≤ q → q < r.nx → keyN q ≠ M := fun q a c e => by
    have := hfr q a c
    rw [e] at this
    rcases hM with hM | ⟨_, hM, _⟩ <;> (rw [this] at hM; cases hM)
  have spec := @copied_spec P b1 208 CS noHook (fun v' h2 => decide (v' = .ptr (keyN (knum h.next + 1)) 0 ∧ ∀ k, h2.get k = orO (lk L k) (if M = k then some (.lmap (os ++ r.en)) else h0.get k))) C hX hF (fun _ => rfl) h.t M d x (knum h.next) r hc hnd hMr hnx
  have good := spec [] h0 os (by rw [eh0]) (fun k hk => ?_) ?_ (fun e he => ?_) (fun q a c => ?_) (fun h2 hh2 => ?_)
  · obtain ⟨ρ', fr, w', v', V, hE, hsteps, hfn, hl, hv, hs', hg', hp⟩ := good _ hre
    obtain ⟨rfl, hEq⟩ := of_decide_eq_true hp
    have same : ∀ {k L}, ρ' k = some L → h'.get k = hE.get k := fun {k L'} e => by
      obtain ⟨o, ho, _⟩ := hs'.obj k L' e
      rw [hh', hEq]
      cases hl : lk L k with
      | some o => rfl
      | none =>
        show (if M = k then _ else h.get k) = if M = k then _ else h0.get k
        by_cases e2 : M = k
        · rw [if_pos e2, if_pos e2]
        · rw [if_neg e2, if_neg e2]
          rw [hEq, hl] at ho
          have ho : (if M = k then some (.lmap (os ++ r.en)) else h0.get k) = some o := ho
          rw [if_neg e2] at ho
          cases hρ : ρ k with
          | none => rw [g0n hρ] at ho; cases ho
          | some L2 => rw [g0s hρ, gm, if_neg e2]
    refine ⟨.returned V, w', fr, ⟨ρ', V, rfl, hs'.sub, fun k o g e => ?_, hv, ?_⟩, hsteps, hfn, hl⟩
    · have hlk : lk L k = none := lk_none fun p hp => by
        obtain ⟨q, a, c, e2⟩ := hrange p hp
        rw [e2]
        intro e3
        rw [← e3, hfr q a c] at g; cases g
      have hMk : M ≠ k := fun e2 => by rw [e2, e] at hLM; cases hLM
      have : hE.get k = none := by
        rw [hEq, hlk, if_neg hMk]; exact g0n e
      refine ⟨hs'.none_of_get this, ?_⟩
      rw [hh', hlk, if_neg hMk]; exact g
    · exact ⟨hs'.os.trans hs.os, hs'.out.trans hs.out, Nat.le_trans hs.size hs'.size, fun k hk => (hs'.old k hk).trans (hs.old k hk), hs.sub.trans hs'.sub, fun k L e => by rw [same e]; exact hs'.obj k L e, fun k k' L L' o o' e e' g g' => hs'.inj k k' L L' o o' e e' (by rw [← same e]; exact g) (by rw [← same e']; exact g')⟩
  · obtain ⟨L2, e⟩ := hrd k hk
    rw [g0s e, gm, if_neg (fun e2 : M = k => hMr (e2 ▸ hk))]
    cases h; rfl
  · rw [g0s hLM, gm, if_pos rfl]
  · obtain ⟨k, cs, e1, e2, e3⟩ := hos e he
    refine ⟨k, cs, e1, e2, ?_⟩
    have hkM : M ≠ k := fun e4 => by
      subst e4
      rcases hM with hM | ⟨_, hM, _⟩ <;> (rw [hM] at e3; cases e3)
    obtain ⟨L2, e4⟩ : ∃ L, ρ k = some L := by
      obtain ⟨oM, hoM, _, hrM⟩ := hsm.obj M LM hLM
      rw [gm, if_pos rfl] at hoM
      injection hoM with hoM; subst hoM
      obtain ⟨_, E, c, _, ⟨es', hp, hE⟩, _⟩ := hrM
      obtain ⟨z, hz, ez⟩ := List.mem_map.1 (hp.mem_iff.2 he)
      obtain ⟨A, V, r1, _⟩ := erel_mem hE z hz
      have : z.1 = .ptr k 0 := by rw [← e1, ← ez]
      rw [this] at r1
      cases r1 with | ptr _ _ L e => exact ⟨L, e⟩
    rw [g0s e4, gm, if_neg hkM]; exact e3
  · rw [g0]
    cases hρ : ρ (keyN q) with
    | none => rfl
    | some L2 =>
      show hm.get (keyN q) = none
      rw [gm, if_neg (fun e => hnM q a c e.symm)]; exact hfr q a c
  · show Well P b1 208 CS _ (.done (.ptr (keyN (knum h.next + 1)) 0) h2)
    rintro m ⟨ρ', fr, w', V, a, c, d, e, f, g⟩
    exact ⟨ρ', fr, w', _, V, h2, a, c, d, e, f, g, decide_eq_true ⟨rfl, fun k => by rw [eL]; exact hh2 k⟩⟩
end
end Go.VM
