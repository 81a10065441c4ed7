/- The evaluator's operations do what the model's do, second part. No conditions: a library text of the proof. -/
import Derived.Test.YtfkgfibmhhlemaaVA
import Derived.LaidEqlPtr
import Derived.Laws.StructEq
import Derived.Laws.RangeString
namespace Go.VM
section
variable {P : Program} {w0 : World} {ρ : Rho} {h : Heap} {w : World}
/-- what an operation does, against what the evaluator says of it -/
def NextOk (P : Program) (w0 : World) (ρ : Rho) (h : Heap) (w : World) (s : Sem Next) : Res → Prop
  | .val v h' => ∃ ρ' w', Sub ρ ρ' ∧ Kept ρ h ρ' h' ∧ Sim w0 ρ' h' w' ∧ ((∃ V, Rel ρ' v V ∧ s.run P w = .ok (.value V) w') ∨ (v = .undef ∧ s.run P w = .ok .skip w'))
  | .enter f args h' => h' = h ∧ ∃ A, RelL ρ args A ∧ s.run P w = (callFunc f ⟨A⟩).run P w
  | .round l args h' => h' = h ∧ ∃ L A, ρ l = some L ∧ RelL ρ args A ∧ s.run P w = (Instr.yield L.B ⟨A⟩).run P w
  | .defer d h' => h' = h ∧ ∃ D, DRel ρ d D ∧ s.run P w = .ok (.defer D) w
  | .recover h' => h' = h ∧ s.run P w = .ok .recover w
  | .pan v h' => h' = h ∧ ∃ V, Rel ρ v V ∧ s.run P w = .halt (.panic V) w
  | .alts l => ∃ p, p ∈ l ∧ ∃ ρ' V w', Sub ρ ρ' ∧ Kept ρ h ρ' p.2 ∧ Sim w0 ρ' p.2 w' ∧ Rel ρ' p.1 V ∧ s.run P w = .ok (.value V) w'
  | .bad _ => True
theorem next_of_val {s : Sem Value} {r : Res} (hr : ValOk P w0 ρ h w s r) : NextOk P w0 ρ h w (do pure (.value (← s))) r := by
  cases r with
  | val v h' =>
    obtain ⟨ρ', V, w', a, b, c, d, e⟩ := hr
    exact ⟨ρ', w', a, b, c, .inl ⟨V, d, by simp [e]⟩⟩
  | bad => exact trivial
  | alts l =>
    obtain ⟨p, hp, ρ', V, w', a, b, c, d, e⟩ := hr
    exact ⟨p, hp, ρ', V, w', a, b, c, d, by simp [e]⟩
  | _ => exact hr.elim
theorem next_of_unit {s : Sem Unit} {r : Res} (hr : UnitOk P w0 ρ h w s r) : NextOk P w0 ρ h w (do s; pure .skip) r := by
  cases r with
  | val v h' =>
    obtain ⟨rfl, ρ', w', a, b, c, e⟩ := hr
    exact ⟨ρ', w', a, b, c, .inr ⟨rfl, by simp [e]⟩⟩
  | bad => exact trivial
  | _ => exact hr.elim
def nilSem (x : Value) : Sem Next := match x with
  | .pointer none | .nilIface | .nilFunc => runtimePanic .nilDeref
  | x => pure (.value x)
theorem xNil_ok (hs : Sim w0 ρ h w) {v : AV} {V : Value} (hv : Rel ρ v V) {o : Oper} {x : Operand} (ho : o.op = .nilCheck x) {E : Operand → Value} (hE : E x = V) : NextOk P w0 ρ h w (execOp E o) (xNil v h) := by
  have key : ∀ V, (∀ n a b, V ≠ .func (.method n) a b) → V ≠ .pointer none → V ≠ .nilIface → V ≠ .nilFunc → E x = V → (execOp E o).run P w = .ok (.value V) w := by
    intro V h1 h2 h3 h4 hEx
    unfold execOp
    rw [ho]
    dsimp only
    rw [hEx]
    cases V with
    | pointer a => cases a with
      | none => exact absurd rfl h2
      | some a => rfl
    | nilIface => exact absurd rfl h3
    | nilFunc => exact absurd rfl h4
    | func f a b => cases f with
      | method n => exact absurd rfl (h1 n a b)
      | _ => rfl
    | _ => rfl
  have fin : ∀ v V, Rel ρ v V → E x = V → (∀ n a b, V ≠ .func (.method n) a b) → V ≠ .pointer none → V ≠ .nilIface → V ≠ .nilFunc → NextOk P w0 ρ h w (execOp E o) (.val v h) :=
    fun v V hr hEx h1 h2 h3 h4 => ⟨ρ, w, Sub.refl _, Kept.refl _ _, hs, .inl ⟨V, hr, key V h1 h2 h3 h4 hEx⟩⟩
  cases hv with
  | nilPtr => exact trivial
  | nilFunc => exact trivial
  | nilIface => exact trivial
  | undef => exact trivial
  | junk => exact trivial
  | bool b => exact fin _ _ (.bool b) hE (by simp) (by simp) (by simp) (by simp)
  | int k n => exact fin _ _ (.int k n) hE (by simp) (by simp) (by simp) (by simp)
  | float k n => exact fin _ _ (.float k n) hE (by simp) (by simp) (by simp) (by simp)
  | str l c hc => exact fin _ _ (.str l c hc) hE (by simp) (by simp) (by simp) (by simp)
  | ptr b o L hb => exact fin _ _ (.ptr b o L hb) hE (by simp) (by simp) (by simp) (by simp)
  | nilSlice => exact fin _ _ .nilSlice hE (by simp) (by simp) (by simp) (by simp)
  | emptyS a c => exact fin _ _ (.emptyS a c) hE (by simp) (by simp) (by simp) (by simp)
  | sliceIs b off len c L hb => exact fin _ _ (.sliceIs b off len c L hb) hE (by simp) (by simp) (by simp) (by simp)
  | sliceMore b off len c sz L hb h1 h2 => exact fin _ _ (.sliceMore b off len c sz L hb h1 h2) hE (by simp) (by simp) (by simp) (by simp)
  | nilMap => exact fin _ _ .nilMap hE (by simp) (by simp) (by simp) (by simp)
  | map b L hb => exact fin _ _ (.map b L hb) hE (by simp) (by simp) (by simp) (by simp)
  | func f a b A B ha hb => exact fin _ _ (.func f a b A B ha hb) hE (by simp) (by simp) (by simp) (by simp)
  | yield l L hl => exact fin _ _ (.yield l L hl) hE (by simp) (by simp) (by simp) (by simp)
  | iface t v V hv => exact fin _ _ (.iface t v V hv) hE (by simp) (by simp) (by simp) (by simp)
  | agg a A ha => exact fin _ _ (.agg a A ha) hE (by simp) (by simp) (by simp) (by simp)
  | tup a A ha => exact fin _ _ (.tup a A ha) hE (by simp) (by simp) (by simp) (by simp)
theorem scalar_rel {v : AV} {V a : Value} (hv : Rel ρ v V) (ha : scalar v = some a) : a = V := by
  cases hv <;> simp [scalar] at ha <;> exact ha.symm
theorem xUn_ok (hs : Sim w0 ρ h w) {op : UnOp} {v : AV} {V : Value} (hv : Rel ρ v V) : ValOk P w0 ρ h w (Op.unary op V) (xUn P op v h) := by
  have gen : ValOk P w0 ρ h w (Op.unary op V) (match scalar v with | some a => scalV (semPure P (Op.unary op a)) h "unOp" | none => .bad "unOp") := by
    cases ha : scalar v with
    | none => exact trivial
    | some a => rw [scalar_rel hv ha]; exact scalV_ok hs
  unfold xUn
  split
  · cases hv with
    | bool b => rw [boolV_eq]; exact here hs (.bool _) (by simp [Op.unary])
  · exact gen
theorem run_asInt {k : IntKind} {n : Int} : (asInt (.int k n)).run P w = .ok n w := by simp [asInt, asIntOf]
theorem run_typeInfo {t : Nat} {i : TypeInfo} (hi : P.info? t = some i) : (typeInfo t).run P w = .ok i w := by simp [typeInfo, hi]
theorem run_askRoom (n : Nat) : (askRoom n).run P w = .ok () w := by unfold askRoom; split <;> simp
theorem xMakeSlice_ok (_hP : TypesOk P) (hs : Sim w0 ρ h w) {t : Nat} {l c : AV} {Lv Cv : Value} (hl : Rel ρ l Lv) (hc : Rel ρ c Cv) : ValOk P w0 ρ h w (Instr.makeSlice t Lv Cv) (xMakeSlice P t l c h) := by
  unfold xMakeSlice
  split
  · rename_i e kl l kc c hu
    cases hl; cases hc
    cases hz : zeroOf P e with
    | none => exact trivial
    | some z =>
      dsimp only
      refine cond_ok (fun hcond => ?_) (fun _ => trivial)
      simp only [Bool.and_eq_true] at hcond
      obtain ⟨⟨h1, h2⟩, h3, h4⟩ := hcond
      have h1 := Nat.le_of_ble_eq_true h1
      have h2 := Nat.eq_of_beq_eq_true h2
      have h3 := Nat.le_of_ble_eq_true h3
      have h4 := Nat.le_of_ble_eq_true h4
      obtain ⟨i, hi⟩ : ∃ i, P.info? e = some i := by
        unfold zeroOf at hz
        cases hi : P.info? e with
        | none => simp [hi] at hz
        | some i => exact ⟨i, rfl⟩
      have hby : bytesOf P e = i.bytes := by simp [bytesOf, hi]
      rw [hby] at h4
      obtain ⟨Cs, hr, hzc⟩ := row_cells (ρ := ρ) (w := w) hz hi h2 c
      refine newCells_ok hs hr (V := .slice (some ⟨w.heap.size, 0, none⟩) l c) ?_ (fun b => Rel.sliceIs b 0 l c ⟨w.heap.size, 0, _⟩ (Rho.add_same _ _ _))
      have w1 : IntKind.i64.wrap (Int.ofNat l) = l := wrap_i64 (by simp [inI64]; omega)
      have w2 : IntKind.i64.wrap (Int.ofNat c) = c := wrap_i64 (by simp [inI64]; omega)
      have hm : i.bytes * c ≤ 1000000000000 := Nat.le_trans (Nat.mul_le_mul h4 h3) (by decide)
      have c1 : ¬ ((i.bytes : Int) * (c : Int) > 2 ^ 48) := by
        rw [← Int.natCast_mul]; generalize i.bytes * c = m at hm; omega
      have c2 : ¬ ((l : Int) > (c : Int)) := by omega
      have c3 : ¬ ((c : Int) < 0) := by omega
      have c4 : ¬ ((l : Int) < 0) := by omega
      have t1 : (decide ((c : Int) < 0) || decide ((i.bytes : Int) * (c : Int) > 2 ^ 48)) = false := by simp; omega
      simp only [Instr.makeSlice, Sem.run_bind, run_underlying' hu, Result.andThen_ok, run_asInt, run_typeInfo hi, w1, w2, t1]
      have t2 : ((false || decide ((l : Int) < 0)) || decide ((l : Int) > (c : Int))) = false := by simp; omega
      simp only [t2, Bool.false_eq_true, if_false, Sem.run_bind, run_askRoom, Result.andThen_ok, run_sizeOf hi, Int.toNat_natCast]
      rcases hzc with ⟨h0, hc0⟩ | ⟨h0, Z, hZ, hc0⟩
      · simp only [if_pos h0, Sem.run_bind, Sem.run_pure, Result.andThen_ok]
        simp only [hc0]
        simp [newRow]
      · simp only [if_neg h0, Sem.run_bind, Sem.run_pure, Result.andThen_ok, hZ]
        simp only [hc0]
        simp [newRow]
  · exact trivial
theorem run_newObj' (o : Obj) : (newObj o).run P w = .ok w.heap.size (w.alloc o) := rfl
theorem makeMap_ok (hs : Sim w0 ρ h w) {t : Nat} {x : Option AV} {X : Option Value} (hx : match x, X with | none, none => True | some a, some A => Rel ρ a A | _, _ => False) :
    ValOk P w0 ρ h w (Instr.makeMap t X) (cond (hintOk P t x) (h.alloc (.map [] 0) (fun b h => .val (.map b) h)) (.bad "makeMap")) := by
  refine cond_ok (fun hc => ?_) (fun _ => trivial)
  refine alloc_ok hs (O := .map #[] 0) (L := ⟨w.heap.size, 0, 0⟩) rfl (fun b _ => ⟨hs.size, #[], rfl, ERel.nil⟩) (fun b h' _ hsub hk hs' => ⟨_, .map (some w.heap.size), _, hsub, hk, hs', .map b ⟨w.heap.size, 0, 0⟩ (Rho.add_same _ _ _), ?_⟩)
  cases x with
  | none =>
    cases X with
    | none => simp [Instr.makeMap]
    | some _ => exact hx.elim
  | some a =>
    cases X with
    | none => exact hx.elim
    | some A =>
      unfold hintOk at hc
      cases hx with
      | int k n =>
        dsimp only at hc
        cases hu : P.underlying t with
        | none => simp [hu] at hc
        | some d =>
          cases d with
          | map kt et => simp [Instr.makeMap, run_underlying' hu, run_asInt]
          | _ => simp [hu] at hc
      | _ => simp at hc
theorem iface_ok (hs : Sim w0 ρ h w) {t : Nat} {v : AV} {V : Value} (hv : Rel ρ v V) : ValOk P w0 ρ h w (Instr.makeInterface t V) (cond (notIface P t) (.val (.iface t v) h) (.bad "makeInterface")) := by
  refine cond_ok (fun hc => ?_) (fun _ => trivial)
  refine here hs (.iface t v V hv) ?_
  unfold notIface at hc
  cases hu : P.underlying t with
  | none => simp [hu] at hc
  | some d => cases d <;> first | (simp [hu] at hc; done) | simp [Instr.makeInterface, run_underlying' hu]
theorem func_ok (hs : Sim w0 ρ h w) {f : Fn} {a b : List AV} {A B : List Value} (ha : RelL ρ a A) (hb : RelL ρ b B) : ValOk P w0 ρ h w (Instr.makeFunc f ⟨A⟩ ⟨B⟩) (xFunc f a b h) := by
  cases f with
  | func f => exact here hs (.func f a b A B ha hb) (by simp [Instr.makeFunc])
  | _ => exact trivial
theorem asNo_ok (hs : Sim w0 ρ h w) {want : Nat} {cok : Bool} {s : Sem Value} (hrun : ∀ Z, (zeroValue want).run P w = .ok Z w → cok = true → s.run P w = .ok (.tuple #[Z, .bool false]) w) : ValOk P w0 ρ h w s (asNo P want cok h) := by
  unfold asNo
  refine cond_ok (fun hc => ?_) (fun _ => trivial)
  cases hz : zeroOf P want with
  | none => exact trivial
  | some z =>
    obtain ⟨Z, hr, ho⟩ := zeroOf_some (w := w) hz
    exact here hs (.tup _ [Z, .bool false] (.cons _ _ _ _ (ofVal_rel ρ Z z ho) (.cons _ _ _ _ (.bool false) .nil))) (hrun Z hr hc)
theorem xAssert_ok (hs : Sim w0 ρ h w) {want xt : Nat} {cok : Bool} {v : AV} {V : Value} (hv : Rel ρ v V) : ValOk P w0 ρ h w (Instr.typeAssert V xt want cok) (xAssert P v want cok h) := by
  unfold xAssert
  cases hu : P.underlying want with
  | none => exact trivial
  | some d =>
    have gen : (∀ ms, d ≠ .interface ms) → ValOk P w0 ρ h w (Instr.typeAssert V xt want cok) (xAssertV P v want cok h) := by
      intro hd
      cases hv with
      | iface t v V hv =>
        dsimp only [xAssertV]
        refine cond_ok (fun hc => ?_) (fun hc => ?_)
        · have := Nat.eq_of_beq_eq_true hc
          subst this
          cases cok
          · exact here hs hv (by cases d <;> first | (exact absurd rfl (hd _)) | simp [Instr.typeAssert, run_underlying' hu])
          · exact here hs (.tup _ [V, .bool true] (.cons _ _ _ _ hv (.cons _ _ _ _ (.bool true) .nil))) (by cases d <;> first | (exact absurd rfl (hd _)) | simp [Instr.typeAssert, run_underlying' hu])
        · have hne : t ≠ want := by intro e; subst e; simp at hc
          refine asNo_ok hs fun Z hZ hco => ?_
          subst hco
          cases d <;> first | (exact absurd rfl (hd _)) | simp [Instr.typeAssert, run_underlying' hu, hne, hZ]
      | nilIface =>
        refine asNo_ok hs fun Z hZ hco => ?_
        subst hco
        cases d <;> first | (exact absurd rfl (hd _)) | simp [Instr.typeAssert, run_underlying' hu, hZ]
      | _ => exact trivial
    cases d with
    | interface ms => exact trivial
    | _ => exact gen (by simp)
theorem newObj_ok (hs : Sim w0 ρ h w) {o : AObj} {O : Obj} {v : Key → AV} {V : Value} {s : Sem Value} {tot : Nat} (ho : ∀ ρ', Sub ρ ρ' → ObjRel w0.heap.size ρ' ⟨w.heap.size, 0, tot⟩ (some O) o)
    (hrun : s.run P w = .ok V (w.alloc O)) (hv : ∀ b, Rel (ρ.add b ⟨w.heap.size, 0, tot⟩) (v b) V) : ValOk P w0 ρ h w s (h.alloc o (fun b h => .val (v b) h)) :=
  alloc_ok hs (L := ⟨w.heap.size, 0, tot⟩) rfl (fun _ hn => ho _ (Rho.sub_add hn)) (fun b _ _ hsub hk hs' => ⟨_, V, _, hsub, hk, hs', hv b, hrun⟩)
theorem run_getObj {B : Nat} {O : Obj} (hO : w.heap[B]? = some O) (hne : ∀ C e q, O ≠ .cells C e q) : (getObj B).run P w = .ok O w := by
  unfold getObj
  cases O <;> first | (exact absurd rfl (hne _ _ _)) | simp [Sem.run, hO]
theorem xRange_ok (hs : Sim w0 ρ h w) {t : Nat} {v : AV} {V : Value} (hv : Rel ρ v V) (ht : (∀ l c, v = .str l c → P.underlying t = some .string) ∧ (v = .nilMap ∨ (∃ b, v = .map b) → ∃ k e, P.underlying t = some (.map k e))) : ValOk P w0 ρ h w (Instr.range t V) (xRange v h) := by
  cases hv with
  | str l c hc =>
    refine newObj_ok hs (o := .siter l c 0) (O := .stringIter (strOf l c) 0) (V := .pointer (some ⟨w.heap.size, 0, none⟩)) (tot := 0) (fun _ _ => ⟨hs.size, rfl, hc, rfl⟩) ?_ (fun b => ptr_new)
    simp [Instr.range, run_underlying' (ht.1 l c rfl)]
  | nilMap =>
    obtain ⟨k, e, hu⟩ := ht.2 (.inl rfl)
    refine newObj_ok hs (o := .miter none 0 [] 0) (O := .mapIter none 0 #[] 0) (V := .pointer (some ⟨w.heap.size, 0, none⟩)) (tot := 0) (fun _ _ => ⟨hs.size, rfl, none, rfl, rfl⟩) ?_ (fun b => ptr_new)
    simp [Instr.range, run_underlying' hu]
  | map m L hm =>
    obtain ⟨k, e, hu⟩ := ht.2 (.inr ⟨m, rfl⟩)
    show ValOk P w0 ρ h w _ (match h.get m with
      | some (.map _ clock) => h.alloc (.miter (some m) clock [] clock) (fun b h => .val (.ptr b 0) h)
      | _ => .bad "range")
    obtain ⟨o, ho, hlt, hr⟩ := hs.obj m L hm
    rw [ho]
    cases o with
    | map es clock =>
      obtain ⟨hN, E, hO, hE⟩ := hr
      refine newObj_ok hs (o := .miter (some m) clock [] clock) (O := .mapIter (some L.B) clock #[] clock) (V := .pointer (some ⟨w.heap.size, 0, none⟩)) (tot := 0) (fun ρ' hsub => ⟨hs.size, rfl, some L.B, rfl, L, hsub _ _ hm, rfl⟩) ?_ (fun b => ptr_new)
      simp [Instr.range, run_underlying' hu, run_getObj hO (by simp)]
    | _ => exact trivial
  | _ => exact trivial
theorem xPanic_ok {v : AV} {V : Value} (hv : Rel ρ v V) : NextOk P w0 ρ h w (do pure (.value (← Instr.panic V))) (xPanic v h) := by
  cases hv with
  | iface t v V hv => exact ⟨rfl, .iface t V, .iface t v V hv, by simp [Instr.panic]⟩
  | _ => exact trivial
end
end Go.VM
namespace Go.VM
section
variable {P : Program} {w0 : World} {ρ : Rho} {h : Heap} {w : World}
theorem isStrT_iff {t : Nat} (ht : isStrT P t = true) : P.underlying t = some .string := by
  unfold isStrT at ht
  cases hu : P.underlying t with
  | none => simp [hu] at ht
  | some d => cases d <;> simp [hu] at ht; rfl
theorem isMapT_iff {t : Nat} (ht : isMapT P t = true) : ∃ k e, P.underlying t = some (.map k e) := by
  unfold isMapT at ht
  cases hu : P.underlying t with
  | none => simp [hu] at ht
  | some d => cases d <;> simp [hu] at ht; exact ⟨_, _, rfl⟩
theorem xIndexC_ok (hs : Sim w0 ρ h w) {t : Nat} {v i : AV} {V I : Value} (hv : Rel ρ v V) (hi : Rel ρ i I) : ValOk P w0 ρ h w (Instr.index t V I) (xIndexC P t v i h) := by
  unfold xIndexC
  split
  · refine cond_ok (fun hc => ?_) (fun _ => trivial)
    exact xIndex_ok hs hv hi (fun _ _ _ => isStrT_iff hc)
  · rename_i hne
    exact xIndex_ok hs hv hi (fun l c e => absurd e (hne l c))
theorem xRangeC_ok (hs : Sim w0 ρ h w) {t : Nat} {v : AV} {V : Value} (hv : Rel ρ v V) : ValOk P w0 ρ h w (Instr.range t V) (xRangeC P t v h) := by
  unfold xRangeC
  split
  · refine cond_ok (fun hc => ?_) (fun _ => trivial)
    exact xRange_ok hs hv ⟨fun _ _ _ => isStrT_iff hc, fun e => by rcases e with e | ⟨_, e⟩ <;> cases e⟩
  · refine cond_ok (fun hc => ?_) (fun _ => trivial)
    exact xRange_ok hs hv ⟨fun _ _ e => (by cases e), fun _ => isMapT_iff hc⟩
  · refine cond_ok (fun hc => ?_) (fun _ => trivial)
    exact xRange_ok hs hv ⟨fun _ _ e => (by cases e), fun _ => isMapT_iff hc⟩
  · exact trivial
theorem liveA_ok (hs : Sim w0 ρ h w) {b : Key} {L : Loc} (hb : ρ b = some L) (hl : liveA h b = true) : ∃ o C e, h.get b = some o ∧ o.live = true ∧ w.heap[L.B]? = some (.cells C e (0, 0)) ∧ L.base = 0 := by
  obtain ⟨o, ho, hlt, hr⟩ := hs.obj b L hb
  unfold liveA at hl
  rw [ho] at hl
  cases o with
  | cells e cs opn fz =>
    obtain ⟨_, C, q, hO, _, _, _, h1, h2⟩ := hr
    cases opn with
    | true => simp at hl
    | false =>
      have hf : fz = 0 := by simpa using hl
      have := h2 hf rfl
      subst this
      exact ⟨_, C, e, ho, rfl, hO, (h1 rfl).1⟩
  | _ => simp at hl
theorem eqPtr_ok (hs : Sim w0 ρ h w) {a b : Key} {o q : Nat} {La Lb : Loc} (ha : ρ a = some La) (hb : ρ b = some Lb) {r : Bool} (he : eqPtr h a o b q = some r) :
    (sameAddr ⟨La.B, La.base + o, none⟩ ⟨Lb.B, Lb.base + q, none⟩).run P w = .ok r w := by
  unfold eqPtr at he
  cases hk : Key.same a b with
  | true =>
    rw [hk] at he
    have := (Key.same_iff a b).1 hk
    subst this
    rw [ha] at hb; cases hb
    have hr : Nat.beq o q = r := by simpa using he
    by_cases hoq : o = q
    · subst hoq
      have : r = true := by rw [← hr]; simp
      rw [this]; exact run_sameAddr_same w _
    · have : r = false := by rw [← hr, Bool.eq_false_iff]; intro e; exact hoq (Nat.eq_of_beq_eq_true e)
      rw [this]
      have hne : (⟨La.B, La.base + o, none⟩ : Addr) ≠ ⟨La.B, La.base + q, none⟩ := by intro e; injection e with _ e2 _; omega
      simp [sameAddr]
  | false =>
    rw [hk] at he
    cases hla : liveA h a with
    | false => rw [hla] at he; cases he
    | true =>
      cases hlb : liveA h b with
      | false => rw [hla, hlb] at he; cases he
      | true =>
        rw [hla, hlb] at he
        have hr : false = r := by simpa using he
        subst hr
        obtain ⟨oa, Ca, ea, ga, la, hOa, _⟩ := liveA_ok hs ha hla
        obtain ⟨ob, Cb, eb, gb, lb, hOb, _⟩ := liveA_ok hs hb hlb
        have hne : La.B ≠ Lb.B := by
          intro e
          have := hs.inj a b La Lb oa ob ha hb ga gb la lb e
          rw [(Key.same_iff a b).2 this] at hk; cases hk
        exact run_sameAddr_other w (by intro e; exact hne (congrArg Addr.block e)) hOa hOb
theorem eqFieldsA_ok {rc : Nat → AV → AV → Option Bool} {d : Nat} {xs ys : List AV} {Xs Ys : List Value} (hx : RelL ρ xs Xs) (hy : RelL ρ ys Ys)
    (hrc : ∀ t x y X Y b, Rel ρ x X → Rel ρ y Y → rc t x y = some b → (Op.equalIn d t X Y).run P w = .ok b w) :
    ∀ (fs : List Field) (b : Bool), eqFieldsA P rc xs ys fs = some b → (Op.eqFields d Xs.toArray Ys.toArray fs).run P w = .ok b w
  | [], b, e => by simp [eqFieldsA] at e; subst e; simp [Op.eqFields]
  | f :: fs, b, e => by
    unfold eqFieldsA at e
    unfold Op.eqFields
    cases hn : (f.name == "_") with
    | true =>
      rw [hn] at e
      have : f.name = "_" := by simpa using hn
      rw [if_neg (by simp [this])]
      exact eqFieldsA_ok hx hy hrc fs b e
    | false =>
      rw [hn] at e
      have hne : f.name ≠ "_" := by simpa using hn
      rw [if_pos hne]
      simp only [cond_false] at e
      cases h1 : partT P f.type f.offset xs with
      | none => simp [h1] at e
      | some a =>
        cases h2 : partT P f.type f.offset ys with
        | none => simp [h1, h2] at e
        | some c =>
          obtain ⟨A, ra, r1⟩ := part_ok (P := P) (w := w) hx h1
          obtain ⟨C, rb, r2⟩ := part_ok (P := P) (w := w) hy h2
          simp only [h1, h2] at e
          simp only [Sem.run_bind, r1, r2, Result.andThen_ok]
          cases h3 : rc f.type a c with
          | none => simp [h3] at e
          | some r =>
            rw [hrc _ _ _ _ _ r ra rb h3]
            simp only [Result.andThen_ok]
            cases r with
            | true =>
              simp only [h3] at e
              simpa using eqFieldsA_ok hx hy hrc fs b e
            | false =>
              simp only [h3] at e
              have : false = b := by simpa using e
              subst this
              simp
set_option maxHeartbeats 2000000 in
theorem eqA_ok (_hP : TypesOk P) (hs : Sim w0 ρ h w) : ∀ (d : Nat) (t : Nat) (x y : AV) (X Y : Value) (b : Bool), Rel ρ x X → Rel ρ y Y → eqA P h d t x y = some b → ∀ D, d ≤ D → (Op.equalIn D t X Y).run P w = .ok b w := by
  intro d
  induction d with
  | zero => intro t x y X Y b _ _ e; simp [eqA] at e
  | succ d ih =>
    intro t x y X Y b hx hy e D hD
    obtain ⟨D, rfl⟩ : ∃ D', D = D' + 1 := ⟨D - 1, by omega⟩
    unfold eqA at e
    cases hu : P.underlying t with
    | none => simp [hu] at e
    | some ds =>
      rw [hu] at e
      cases ds with
      | bool =>
        cases hx <;> cases hy <;> simp at e
        subst e; simp [Op.equalIn, run_underlying' hu]
      | int k =>
        cases hx <;> cases hy <;> simp at e
        rename_i k1 a k2 c
        cases hk : Nat.beq (kindNo k1) (kindNo k2) with
        | false => rw [hk] at e; cases e
        | true =>
          have := kindNo_inj hk
          subst this
          rw [hk] at e
          have e' : intEq a c = b := by simpa using e
          rw [← e', intEq_eq]
          simp [Op.equalIn, run_underlying' hu]
      | float k =>
        cases hx <;> cases hy <;> simp at e
        rename_i k1 a k2 c
        cases k1 <;> cases k2 <;> simp at e
        subst e; simp [Op.equalIn, run_underlying' hu]
      | string =>
        cases hx <;> cases hy <;> simp at e
        rename_i l1 c1 h1 l2 c2 h2
        rw [run_equalIn_string w D t _ _ hu, strOf_toList, strOf_toList, ← str_eq_iff h1 h2, ← e]
        cases Nat.beq l1 l2 <;> rfl
      | pointer el =>
        cases hx <;> cases hy <;> simp at e
        · subst e; simp [Op.equalIn, run_underlying' hu]
        · subst e; simp [Op.equalIn, run_underlying' hu]
        · subst e; simp [Op.equalIn, run_underlying' hu]
        · rename_i k1 o1 L1 hb1 k2 o2 L2 hb2
          obtain ⟨i, hi⟩ : ∃ i, P.info? el = some i := by
            cases hi : P.info? el with
            | none => simp [szOf, hi] at e
            | some i => exact ⟨i, rfl⟩
          rw [szOf_eq hi] at e
          cases h0' : Nat.beq i.size 0 with
          | true => rw [h0'] at e; cases e
          | false =>
            rw [h0'] at e
            have h0 : i.size ≠ 0 := by intro e0; rw [e0] at h0'; cases h0'
            simp only [cond_false] at e
            simp [Op.equalIn, run_underlying' hu, run_sizeOf hi, h0, eqPtr_ok (P := P) hs hb1 hb2 e]
      | interface ms =>
        cases hx <;> cases hy <;> simp at e
        · rename_i ta a A ha tb c C hc
          cases htt' : Nat.beq ta tb with
          | true =>
            have htt := Nat.eq_of_beq_eq_true htt'
            subst htt
            rw [htt'] at e
            simp only [cond_true] at e
            cases hi : P.info? ta with
            | none => simp [hi] at e
            | some i =>
              simp [hi] at e
              by_cases hcmp : i.comparable = true
              · simp [hcmp] at e
                simp [Op.equalIn, run_underlying' hu, run_typeInfo hi, hcmp, ih ta a c A C b ha hc e D (by omega)]
              · simp [hcmp] at e
          | false =>
            have htt : ta ≠ tb := by intro e0; subst e0; simp at htt'
            rw [htt'] at e
            have : b = false := by simpa using e.symm
            subst this
            simp [Op.equalIn, run_underlying' hu, htt]
        · subst e; simp [Op.equalIn, run_underlying' hu]
        · subst e; simp [Op.equalIn, run_underlying' hu]
        · subst e; simp [Op.equalIn, run_underlying' hu]
      | slice el =>
        cases hx with
        | nilSlice =>
          cases hy with
          | nilSlice => first | (cases e; done) | (simp at e; subst e; simp [Op.equalIn, run_underlying' hu])
          | emptyS a c => first | (cases e; done) | (simp at e; subst e; simp [Op.equalIn, run_underlying' hu])
          | sliceIs b off len c L hb => first | (cases e; done) | (simp at e; subst e; simp [Op.equalIn, run_underlying' hu])
          | sliceMore b off len c sz L hb h1 h2 => first | (cases e; done) | (simp at e; subst e; simp [Op.equalIn, run_underlying' hu])
          | _ => cases e
        | emptyS a c =>
          cases hy with
          | nilSlice => first | (cases e; done) | (simp at e; subst e; simp [Op.equalIn, run_underlying' hu])
          | emptyS a c => first | (cases e; done) | (simp at e; subst e; simp [Op.equalIn, run_underlying' hu])
          | sliceIs b off len c L hb => first | (cases e; done) | (simp at e; subst e; simp [Op.equalIn, run_underlying' hu])
          | sliceMore b off len c sz L hb h1 h2 => first | (cases e; done) | (simp at e; subst e; simp [Op.equalIn, run_underlying' hu])
          | _ => cases e
        | sliceIs b off len c L hb =>
          cases hy with
          | nilSlice => first | (cases e; done) | (simp at e; subst e; simp [Op.equalIn, run_underlying' hu])
          | emptyS a c => first | (cases e; done) | (simp at e; subst e; simp [Op.equalIn, run_underlying' hu])
          | sliceIs b off len c L hb => first | (cases e; done) | (simp at e; subst e; simp [Op.equalIn, run_underlying' hu])
          | sliceMore b off len c sz L hb h1 h2 => first | (cases e; done) | (simp at e; subst e; simp [Op.equalIn, run_underlying' hu])
          | _ => cases e
        | sliceMore b off len c sz L hb h1 h2 =>
          cases hy with
          | nilSlice => first | (cases e; done) | (simp at e; subst e; simp [Op.equalIn, run_underlying' hu])
          | emptyS a c => first | (cases e; done) | (simp at e; subst e; simp [Op.equalIn, run_underlying' hu])
          | sliceIs b off len c L hb => first | (cases e; done) | (simp at e; subst e; simp [Op.equalIn, run_underlying' hu])
          | sliceMore b off len c sz L hb h1 h2 => first | (cases e; done) | (simp at e; subst e; simp [Op.equalIn, run_underlying' hu])
          | _ => cases e
        | _ => cases e
      | map kt et =>
        cases hx with
        | nilMap =>
          cases hy with
          | nilMap => first | (cases e; done) | (simp at e; subst e; simp [Op.equalIn, run_underlying' hu])
          | map b L hb => first | (cases e; done) | (simp at e; subst e; simp [Op.equalIn, run_underlying' hu])
          | _ => cases e
        | map b L hb =>
          cases hy with
          | nilMap => first | (cases e; done) | (simp at e; subst e; simp [Op.equalIn, run_underlying' hu])
          | map b L hb => first | (cases e; done) | (simp at e; subst e; simp [Op.equalIn, run_underlying' hu])
          | _ => cases e
        | _ => cases e
      | func a b c =>
        cases hx with
        | nilFunc =>
          cases hy with
          | nilFunc => first | (cases e; done) | (simp at e; subst e; simp [Op.equalIn, run_underlying' hu])
          | func f a b A B ha hb => first | (cases e; done) | (simp at e; subst e; simp [Op.equalIn, run_underlying' hu])
          | yield l L hl => first | (cases e; done) | (simp at e; subst e; simp [Op.equalIn, run_underlying' hu])
          | _ => cases e
        | func f a b A B ha hb =>
          cases hy with
          | nilFunc => first | (cases e; done) | (simp at e; subst e; simp [Op.equalIn, run_underlying' hu])
          | func f a b A B ha hb => first | (cases e; done) | (simp at e; subst e; simp [Op.equalIn, run_underlying' hu])
          | yield l L hl => first | (cases e; done) | (simp at e; subst e; simp [Op.equalIn, run_underlying' hu])
          | _ => cases e
        | yield l L hl =>
          cases hy with
          | nilFunc => first | (cases e; done) | (simp at e; subst e; simp [Op.equalIn, run_underlying' hu])
          | func f a b A B ha hb => first | (cases e; done) | (simp at e; subst e; simp [Op.equalIn, run_underlying' hu])
          | yield l L hl => first | (cases e; done) | (simp at e; subst e; simp [Op.equalIn, run_underlying' hu])
          | _ => cases e
        | _ => cases e
      | struct fs =>
        cases hx <;> cases hy <;> simp at e
        rename_i a A ha c C hc
        by_cases hst : P.stoodInHeld t = true
        · simp [hst] at e
        · simp [hst] at e
          have hfs : P.fieldsOf t = fs := by simp [Program.fieldsOf, hu]
          have := run_equalIn_struct w D t A.toArray C.toArray (by rw [hfs]; exact hu) (by simpa using hst)
          rw [hfs] at this
          rw [this]
          exact eqFieldsA_ok ha hc (fun t x y X Y b hx hy he => ih t x y X Y b hx hy he D (by omega)) fs.toList b e
      | _ => simp at e
end
end Go.VM
namespace Go.VM
section
variable {P : Program} {w0 : World} {ρ : Rho} {h : Heap} {w : World}
theorem eqGuard_other {op : BinOp} {t : TypeId} {x y : Operand} {A B : Value} (h1 : A ≠ .nilIface) (h2 : ∀ a, A ≠ .agg a) : (eqGuard op t x y A B).run P w = .ok () w := by
  cases A <;> first | exact absurd rfl h1 | exact absurd rfl (h2 _) | (cases op <;> rfl)
theorem eqGuardIn_nil {t : TypeId} (hg : guardEq P false t .nilIface = true) : (Op.eqGuardIn Op.maxDepth t .nilIface .nilIface).run P w = .ok false w := by
  unfold guardEq at hg
  cases hu : P.underlying t with
  | none => simp [hu] at hg
  | some d =>
    cases d with
    | interface ms =>
      simp only [hu] at hg
      have hm : ms.isEmpty = true := hg
      have key : ∀ d, (Op.eqGuardIn (d + 1) t .nilIface .nilIface).run P w = .ok false w := fun d => by
        simp only [Op.eqGuardIn, Sem.run_bind, run_underlying' hu, Result.andThen_ok, hm, Bool.not_true, Sem.run_pure]
      exact key 9999
    | _ => simp [hu] at hg
theorem eqGuard_nil {op : BinOp} {t : TypeId} {x y : Operand} {B : Value} (hg : guardEq P (or (isC x) (isC y)) t .nilIface = true) : (eqGuard op t x y .nilIface B).run P w = .ok () w := by
  cases B with
  | nilIface =>
    cases op with
    | eql => cases x <;> cases y <;> first | rfl | simp [eqGuard, eqGuardIn_nil (w := w) hg]
    | neq => cases x <;> cases y <;> first | rfl | simp [eqGuard, eqGuardIn_nil (w := w) hg]
    | _ => rfl
  | _ => cases op <;> rfl
theorem eqGuard_agg {op : BinOp} {t : TypeId} {x y : Operand} {c : List AV} {C : Array Value} {B : Value} {cst : Bool} (hg : guardEq P cst t (.agg c) = true) : (eqGuard op t x y (.agg C) B).run P w = .ok () w := by
  have hm : P.eqGuardType P.depth t = false := by simpa [guardEq] using hg
  cases B with
  | agg D => exact run_eqGuard_agg w op t x y C D hm
  | _ => cases op <;> rfl
theorem eqGuard_ok {op : BinOp} {t : TypeId} {x y : Operand} {a : AV} {A B : Value} (hg : guardEq P (or (isC x) (isC y)) t a = true) (ha : Rel ρ a A) (hj : a ≠ .junk) : (eqGuard op t x y A B).run P w = .ok () w := by
  cases ha with
  | junk => exact absurd rfl hj
  | nilIface => exact eqGuard_nil hg
  | agg c C hc => exact eqGuard_agg hg
  | _ => exact eqGuard_other (by simp) (by simp)
theorem eqA_not_junk {d t : Nat} {x y : AV} {b : Bool} (e : eqA P h d t x y = some b) : x ≠ .junk := by
  intro hj
  subst hj
  cases d with
  | zero => simp [eqA] at e
  | succ d =>
    unfold eqA at e
    cases hu : P.underlying t with
    | none => simp [hu] at e
    | some ds => rw [hu] at e; cases ds <;> cases e
/-- an operation's value behind the guard -/
theorem guarded {s : Sem Value} {g : Sem Unit} {r : Res} (hg : g.run P w = .ok () w) (hr : ValOk P w0 ρ h w s r) : ValOk P w0 ρ h w (do g; s) r := by
  cases r with
  | val v h' =>
    obtain ⟨ρ', V, w', a, b, c, d, e⟩ := hr
    exact ⟨ρ', V, w', a, b, c, d, by simp [hg, e]⟩
  | bad => exact trivial
  | alts l =>
    obtain ⟨p, hp, ρ', V, w', a, b, c, d, e⟩ := hr
    exact ⟨p, hp, ρ', V, w', a, b, c, d, by simp [hg, e]⟩
  | _ => exact hr.elim
theorem bytesLess_total : ∀ a b : List UInt8, Op.bytesLess b a = !(Op.bytesLess a b || (a == b))
  | [], [] => rfl
  | [], _ :: _ => rfl
  | _ :: _, [] => rfl
  | x :: a, y :: b => by
    simp only [Op.bytesLess, bytesLess_total a b]
    by_cases h1 : x < y
    · have h2 : ¬ y < x := by exact UInt8.lt_asymm h1
      have h3 : ¬ x = y := by intro e; subst e; exact UInt8.lt_irrefl _ h1
      have h4 : ¬ y = x := fun e => h3 e.symm
      simp [h1, h2, h4]
    · by_cases h2 : y < x
      · have h3 : ¬ x = y := by intro e; subst e; exact h1 h2
        simp [h1, h2, h3]
      · have h3 : x = y := by
          have a1 : ¬ x.toNat < y.toNat := (fun e => h1 (UInt8.lt_iff_toNat_lt.2 e))
          have a2 : ¬ y.toNat < x.toNat := (fun e => h2 (UInt8.lt_iff_toNat_lt.2 e))
          exact UInt8.toNat_inj.1 (by omega)
        subst h3
        simp
theorem binStr_ok (hs : Sim w0 ρ h w) {op : BinOp} {t : Nat} {la a lb b : Nat} (ha : a < 256 ^ la) (hb : b < 256 ^ lb) : ValOk P w0 ρ h w (binOp op t (.string (strOf la a)) (.string (strOf lb b))) (binStr op la a lb b h) := by
  have e0 : cond (Nat.beq la lb) (Nat.beq a b) false = ((strOf la a).toList == (strOf lb b).toList) := by rw [strOf_toList, strOf_toList]; exact str_eq_iff ha hb
  have l1 : strLess (la + lb + 1) la a lb b = Op.bytesLess (strOf la a).toList (strOf lb b).toList := by rw [strOf_toList, strOf_toList]; exact strLess_eq _ _ _ _ _ (by omega)
  have l2 : strLess (la + lb + 1) lb b la a = Op.bytesLess (strOf lb b).toList (strOf la a).toList := by rw [strOf_toList, strOf_toList]; exact strLess_eq _ _ _ _ _ (by omega)
  have tot : Op.bytesLess (strOf lb b).toList (strOf la a).toList = !(Op.bytesLess (strOf la a).toList (strOf lb b).toList || ((strOf la a).toList == (strOf lb b).toList)) := bytesLess_total _ _
  cases op with
  | add =>
    unfold binStr strV
    rw [forceN_eq, forceN_eq]
    refine cond_ok (fun hc => ?_) (fun _ => trivial)
    have hle := Nat.le_of_ble_eq_true hc
    rw [shl_eq]
    refine here hs (.str (la + lb) _ (add_lt ha hb)) ?_
    have hn : ¬ (((la + lb : Nat) : Int) > IntKind.i64.max) := by show ¬ ((la + lb : Nat) : Int) > 9223372036854775807; omega
    simp only [binOp, Op.stringOp, strOf_size, if_neg hn, Sem.run_pure, strOf_append ha]
  | eql => dsimp only [binStr]; rw [boolV_eq]; refine here hs (.bool _) ?_; (rw [e0]; rfl)
  | neq => dsimp only [binStr]; rw [boolV_eq]; refine here hs (.bool _) ?_; (rw [e0]; rfl)
  | lss => dsimp only [binStr]; rw [boolV_eq]; refine here hs (.bool _) ?_; (rw [l1]; rfl)
  | gtr => dsimp only [binStr]; rw [boolV_eq]; refine here hs (.bool _) ?_; (rw [l2, tot]; first | rfl | (rw [Bool.not_not]; rfl))
  | leq => dsimp only [binStr]; rw [boolV_eq]; refine here hs (.bool _) ?_; (rw [l2, tot]; first | rfl | (rw [Bool.not_not]; rfl))
  | geq => dsimp only [binStr]; rw [boolV_eq]; refine here hs (.bool _) ?_; (rw [l1]; rfl)
  | _ => exact trivial
theorem binOther_ok (hP : TypesOk P) (hs : Sim w0 ρ h w) {op : BinOp} {t : Nat} {x y : Operand} {a b : AV} {A B : Value} (ha : Rel ρ a A) (hb : Rel ρ b B)
    (hne : (∀ k n, a ≠ .int k n) ∧ (∀ l c, a ≠ .str l c) ∧ (∀ k n, a ≠ .float k n)) :
    ValOk P w0 ρ h w (do eqGuard op t x y A B; binOp op t A B) (binOther P op t (or (isC x) (isC y)) a b h) := by
  have heq : ∀ r, eqA P h 50 t a b = some r → guardEq P (or (isC x) (isC y)) t a = true → (eqGuard op t x y A B).run P w = .ok () w ∧ (Op.equal t A B).run P w = .ok r w := by
    intro r e hg
    exact ⟨eqGuard_ok hg ha (eqA_not_junk e), eqA_ok hP hs 50 t a b A B r ha hb e Op.maxDepth (by decide)⟩
  have hnj : a = .junk ∨ ((∀ k n, A ≠ .int k n) ∧ (∀ s, A ≠ .string s) ∧ (∀ k n, A ≠ .float k n) ∧ (∀ k n m, A ≠ .complex k n m)) := by
    cases ha with
    | junk => exact .inl rfl
    | int k n => exact absurd rfl (hne.1 k n)
    | str l c _ => exact absurd rfl (hne.2.1 l c)
    | float k n => exact absurd rfl (hne.2.2 k n)
    | _ => exact .inr (by simp)
  have bin : ∀ r, a ≠ .junk → (Op.equal t A B).run P w = .ok r w → (binOp .eql t A B).run P w = .ok (.bool r) w ∧ (binOp .neq t A B).run P w = .ok (.bool (!r)) w := by
    intro r hj e
    obtain ⟨n1, n2, n3, n4⟩ := hnj.resolve_left hj
    cases A <;> first | exact absurd rfl (n1 _ _) | exact absurd rfl (n2 _) | exact absurd rfl (n3 _ _) | exact absurd rfl (n4 _ _ _) | (simp [binOp, e])
  have other : ValOk P w0 ρ h w (do eqGuard op t x y A B; binOp op t A B) (match scalar a, scalar b with
    | some u, some v => scalV (semPure P (binOp op t u v)) h "binOp"
    | _, _ => .bad "binOp") := by
    cases hu : scalar a with
    | none => exact trivial
    | some u =>
      cases hv : scalar b with
      | none => exact trivial
      | some v =>
        rw [scalar_rel ha hu, scalar_rel hb hv]
        refine guarded (eqGuard_other ?_ ?_) (scalV_ok hs)
        · intro e; subst e; cases ha <;> simp [scalar] at hu
        · intro z e; subst e; cases ha <;> simp [scalar] at hu
  cases op with
  | eql =>
    show ValOk P w0 ρ h w _ (cond (guardEq P (or (isC x) (isC y)) t a) (okb (eqA P h 50 t a b) h) (.bad "=="))
    refine cond_ok (fun hg => ?_) (fun _ => trivial)
    cases e : eqA P h 50 t a b with
    | none => exact trivial
    | some r =>
      obtain ⟨g, q⟩ := heq r e hg
      show ValOk P w0 ρ h w _ (boolV r h)
      rw [boolV_eq]
      exact guarded g (here hs (.bool r) (bin r (eqA_not_junk e) q).1)
  | neq =>
    show ValOk P w0 ρ h w _ (cond (guardEq P (or (isC x) (isC y)) t a) (oknb (eqA P h 50 t a b) h) (.bad "!="))
    refine cond_ok (fun hg => ?_) (fun _ => trivial)
    cases e : eqA P h 50 t a b with
    | none => exact trivial
    | some r =>
      obtain ⟨g, q⟩ := heq r e hg
      show ValOk P w0 ρ h w _ (boolV (not r) h)
      rw [boolV_eq]
      exact guarded g (here hs (.bool _) (bin r (eqA_not_junk e) q).2)
  | _ => exact other
theorem xBin_ok (hP : TypesOk P) (hs : Sim w0 ρ h w) {op : BinOp} {t : Nat} {x y : Operand} {a b : AV} {A B : Value} (ha : Rel ρ a A) (hb : Rel ρ b B) :
    ValOk P w0 ρ h w (do eqGuard op t x y A B; binOp op t A B) (xBin P op t (or (isC x) (isC y)) a b h) := by
  unfold xBin
  split
  · split
    · cases ha; cases hb
      exact guarded (eqGuard_other (by simp) (by simp)) (binInt_ok hs)
    · exact trivial
  · split
    · cases ha with | str l c hc => cases hb with | str m d hd => exact guarded (eqGuard_other (by simp) (by simp)) (binStr_ok hs hc hd)
    · exact trivial
  · split
    · cases ha; cases hb
      exact guarded (eqGuard_other (by simp) (by simp)) (scalV_ok hs)
    · exact trivial
  · rename_i h1 h2 h3
    exact binOther_ok hP hs ha hb ⟨fun k n e => h1 k n e, fun l c e => h2 l c e, fun k n e => h3 k n e⟩
end
end Go.VM
namespace Go.VM
section
variable {P : Program} {w0 : World} {ρ : Rho} {h : Heap} {w : World}
def nowT : TypeDesc → Bool
  | .int _ => true | .string => true | .bool => true
  | _ => false
/-- what one comparison of keys says -/
theorem key_eq (hP : TypesOk P) (hs : Sim w0 ρ h w) {kt : Nat} {k k' : AV} {K K' : Value} {b : Bool} (hk : Rel ρ k K) (hk' : Rel ρ k' K') (e : eqA P h 50 kt k k' = some b) (d : TypeDesc) (hd : P.underlying kt = some d) :
    (Op.equal kt K K').run P w = .ok b w ∧ (nowT d = true → Instr.sameNow d K K' = some b) ∧ (∀ el, d = .pointer el → Instr.sameNow d K K' = none ∧ (b = true → ∀ n, Instr.sameBits n K' K = true)) ∧ (nowT d = true → b = true → ∀ n, Instr.sameBits n K' K = true) := by
  refine ⟨eqA_ok hP hs 50 kt k k' K K' b hk hk' e Op.maxDepth (by decide), ?_, ?_, ?_⟩
  · intro hn
    unfold eqA at e
    rw [hd] at e
    cases d with
    | int kk =>
      cases hk with
      | int k1 a => cases hk' with
        | int k2 c =>
          dsimp only at e
          cases hkk : Nat.beq (kindNo k1) (kindNo k2) with
          | false => rw [hkk] at e; cases e
          | true =>
            rw [hkk] at e
            have := kindNo_inj hkk; subst this
            have e' : intEq a c = b := by simpa using e
            rw [← e', intEq_eq]; simp [Instr.sameNow]
        | _ => cases e
      | _ => cases e
    | string =>
      cases hk with
      | str l1 c1 h1 => cases hk' with
        | str l2 c2 h2 =>
          dsimp only at e
          have e' : cond (Nat.beq l1 l2) (Nat.beq c1 c2) false = b := by simpa using e
          rw [← e', str_eq_iff h1 h2, ← strOf_toList, ← strOf_toList, ← beq_toListBytes]; rfl
        | _ => cases e
      | _ => cases e
    | bool =>
      cases hk with
      | bool a => cases hk' with
        | bool c => dsimp only at e; have e' : (a == c) = b := by simpa using e
                    rw [← e']; rfl
        | _ => cases e
      | _ => cases e
    | _ => simp [nowT] at hn
  · intro el hel
    subst hel
    unfold eqA at e
    rw [hd] at e
    cases hk with
    | nilPtr => cases hk' with
      | nilPtr => exact ⟨rfl, fun _ n => by cases n <;> rfl⟩
      | ptr b2 o2 L2 h2 => dsimp only at e; exact ⟨rfl, fun hb => by subst hb; simp at e⟩
      | _ => cases e
    | ptr b1 o1 L1 h1 => cases hk' with
      | nilPtr => dsimp only at e; exact ⟨rfl, fun hb => by subst hb; simp at e⟩
      | ptr b2 o2 L2 h2 =>
        refine ⟨rfl, fun hb => ?_⟩
        subst hb
        dsimp only at e
        cases hz : Nat.beq (szOf P el) 0 with
        | true => rw [hz] at e; cases e
        | false =>
          rw [hz] at e
          simp only [cond_false] at e
          unfold eqPtr at e
          cases hsm : Key.same b1 b2 with
          | false =>
            rw [hsm] at e
            cases ha : liveA h b1 <;> cases hb : liveA h b2 <;> simp [ha, hb] at e
          | true =>
            rw [hsm] at e
            have := (Key.same_iff _ _).1 hsm
            subst this
            rw [h1] at h2; cases h2
            have : o1 = o2 := by simpa using e
            subst this
            intro n; cases n <;> simp [Instr.sameBits]
      | _ => cases e
    | _ => cases e
  · intro hn hb
    subst hb
    unfold eqA at e
    rw [hd] at e
    cases d with
    | int kk =>
      cases hk with
      | int k1 a => cases hk' with
        | int k2 c =>
          dsimp only at e
          cases hkk : Nat.beq (kindNo k1) (kindNo k2) with
          | false => rw [hkk] at e; cases e
          | true =>
            rw [hkk] at e
            have := kindNo_inj hkk; subst this
            have e' : intEq a c = true := by simpa using e
            have := (intEq_iff a c).1 e'
            subst this
            intro n; cases n <;> simp [Instr.sameBits]
        | _ => cases e
      | _ => cases e
    | string =>
      cases hk with
      | str l1 c1 h1 => cases hk' with
        | str l2 c2 h2 =>
          dsimp only at e
          have e' : cond (Nat.beq l1 l2) (Nat.beq c1 c2) false = true := by simpa using e
          have : l1 = l2 ∧ c1 = c2 := by
            cases hl : Nat.beq l1 l2 with
            | false => rw [hl] at e'; cases e'
            | true => rw [hl] at e'; exact ⟨Nat.eq_of_beq_eq_true hl, Nat.eq_of_beq_eq_true e'⟩
          obtain ⟨rfl, rfl⟩ := this
          intro n; cases n <;> simp [Instr.sameBits, beq_toListBytes]
        | _ => cases e
      | _ => cases e
    | bool =>
      cases hk with
      | bool a => cases hk' with
        | bool c =>
          dsimp only at e; have e' : (a == c) = true := by simpa using e
          have : a = c := by simpa using e'
          subst this
          intro n; cases n <;> simp [Instr.sameBits]
        | _ => cases e
      | _ => cases e
    | _ => simp [nowT] at hn
end
end Go.VM
namespace Go.VM
theorem ERel.length {ρ : Rho} : ∀ {es : List (AV × AV × Nat)} {E : List MapEntry}, ERel ρ es E → E.length = es.length
  | _, _, .nil => rfl
  | _, _, .cons _ _ _ _ _ _ _ _ _ hr => by simp [ERel.length hr]
theorem ERel.append {ρ : Rho} : ∀ {a b : List (AV × AV × Nat)} {A B : List MapEntry}, ERel ρ a A → ERel ρ b B → ERel ρ (a ++ b) (A ++ B)
  | _, _, _, _, .nil, h => h
  | _, _, _, _, .cons k v K V c _ _ hk hv hr, h => .cons k v K V c _ _ hk hv (ERel.append hr h)
theorem ERel.modify {ρ : Rho} {k v : AV} {K V : Value} (hk : Rel ρ k K) (hv : Rel ρ v V) : ∀ {a : List (AV × AV × Nat)} {A : List MapEntry} (i : Nat), ERel ρ a A → ERel ρ (a.modify i fun e => (k, v, e.2.2)) (A.modify i fun e => { e with key := K, val := V })
  | _, _, _, .nil => by simpa using ERel.nil
  | _, _, 0, .cons _ _ _ _ c _ _ _ _ hr => by simpa using ERel.cons k v K V c _ _ hk hv hr
  | _, _, i + 1, .cons k' v' K' V' c _ _ hk' hv' hr => by simpa using ERel.cons k' v' K' V' c _ _ hk' hv' (ERel.modify hk hv i hr)
theorem ERel.eraseIdx {ρ : Rho} : ∀ {a : List (AV × AV × Nat)} {A : List MapEntry} (i : Nat), ERel ρ a A → ERel ρ (a.eraseIdx i) (A.eraseIdx i)
  | _, _, _, .nil => by simpa using ERel.nil
  | _, _, 0, .cons _ _ _ _ c _ _ _ _ hr => by simpa using hr
  | _, _, i + 1, .cons k' v' K' V' c _ _ hk' hv' hr => by simpa using ERel.cons k' v' K' V' c _ _ hk' hv' (ERel.eraseIdx i hr)
theorem ERel.get? {ρ : Rho} : ∀ {a : List (AV × AV × Nat)} {A : List MapEntry} (i : Nat) {e : AV × AV × Nat}, ERel ρ a A → a[i]? = some e → ∃ K V, A[i]? = some { key := K, val := V, born := e.2.2 } ∧ Rel ρ e.1 K ∧ Rel ρ e.2.1 V
  | _, _, _, _, .nil, h => by simp at h
  | _, _, 0, _, .cons k v K V c _ _ hk hv _, h => by simp at h; subst h; exact ⟨K, V, by simp, hk, hv⟩
  | _, _, i + 1, _, .cons _ _ _ _ _ _ _ _ _ hr, h => by
    simp at h
    obtain ⟨K, V, e, r⟩ := ERel.get? i hr h
    exact ⟨K, V, by simpa using e, r⟩
section
variable {P : Program} {w0 : World} {ρ : Rho} {h : Heap} {w : World}
def posA (f : AV → Option Bool) : List (AV × AV × Nat) → Option (Option Nat)
  | [] => some none
  | (k', _, _) :: r => match f k' with
    | some true => some (some 0)
    | some false => (match posA f r with | some p => some (p.map (· + 1)) | none => none)
    | none => none
theorem findKeyA_pos {kt : Nat} {k : AV} : ∀ {es : List (AV × AV × Nat)} {r : Option AV}, findKeyA P h kt k es = some r → ∃ p, posA (eqA P h 50 kt k) es = some p ∧ r = p.bind fun i => (es[i]?).map (·.2.1)
  | [], r, e => by simp [findKeyA] at e; subst e; exact ⟨none, rfl, rfl⟩
  | (k', v, c) :: es, r, e => by
    unfold findKeyA at e
    unfold posA
    cases hq : eqA P h 50 kt k k' with
    | none => simp [hq] at e
    | some b =>
      cases b with
      | true => simp [hq] at e; subst e; exact ⟨some 0, rfl, rfl⟩
      | false =>
        simp only [hq] at e
        obtain ⟨p, hp, hr⟩ := findKeyA_pos e
        refine ⟨p.map (· + 1), by simp [hp], ?_⟩
        rw [hr]; cases p <;> simp
theorem setKeyA_pos {kt : Nat} {k v : AV} {clock : Nat} : ∀ {es es' : List (AV × AV × Nat)} {nw : Bool}, setKeyA P h kt k v clock es = some (es', nw) → ∃ p, posA (eqA P h 50 kt k) es = some p ∧
    (match p with | none => nw = true ∧ es' = es ++ [(k, v, clock)] | some i => nw = false ∧ i < es.length ∧ es' = es.modify i fun e => (k, v, e.2.2))
  | [], es', nw, e => by simp [setKeyA] at e; obtain ⟨rfl, rfl⟩ := e; exact ⟨none, rfl, rfl, rfl⟩
  | (k', v', c) :: es, es', nw, e => by
    unfold setKeyA at e
    unfold posA
    cases hq : eqA P h 50 kt k k' with
    | none => simp [hq] at e
    | some b =>
      cases b with
      | true => simp [hq] at e; obtain ⟨rfl, rfl⟩ := e; exact ⟨some 0, rfl, rfl, by simp, by simp⟩
      | false =>
        simp only [hq] at e
        cases hr : setKeyA P h kt k v clock es with
        | none => simp [hr] at e
        | some x =>
          obtain ⟨l, n⟩ := x
          simp [hr] at e
          obtain ⟨rfl, rfl⟩ := e
          obtain ⟨p, hp, hm⟩ := setKeyA_pos hr
          cases p with
          | none => obtain ⟨a, b⟩ := hm; exact ⟨none, by simp [hp], a, by simp [b]⟩
          | some i => obtain ⟨a, b, c⟩ := hm; exact ⟨some (i + 1), by simp [hp], a, by simp [b], by simp [c]⟩
theorem delKeyA_pos {kt : Nat} {k : AV} : ∀ {es es' : List (AV × AV × Nat)}, delKeyA P h kt k es = some es' → ∃ p, posA (eqA P h 50 kt k) es = some p ∧ es' = (match p with | none => es | some i => es.eraseIdx i)
  | [], es', e => by simp [delKeyA] at e; subst e; exact ⟨none, rfl, rfl⟩
  | (k', v', c) :: es, es', e => by
    unfold delKeyA at e
    unfold posA
    cases hq : eqA P h 50 kt k k' with
    | none => simp [hq] at e
    | some b =>
      cases b with
      | true => simp [hq] at e; subst e; exact ⟨some 0, rfl, by simp⟩
      | false =>
        simp only [hq] at e
        cases hr : delKeyA P h kt k es with
        | none => simp [hr] at e
        | some l =>
          simp [hr] at e
          subst e
          obtain ⟨p, hp, hm⟩ := delKeyA_pos hr
          cases p with
          | none => exact ⟨none, by simp [hp], by simp [hm]⟩
          | some i => exact ⟨some (i + 1), by simp [hp], by simp [hm]⟩
end
end Go.VM
namespace Go.VM
section
variable {P : Program} {w0 : World} {ρ : Rho} {h : Heap} {w : World}
def entryAt (E : List MapEntry) (o : Nat) (p : Option Nat) : Option (Nat × Value) := p.bind fun i => (E[i]?).map fun e => (o + i, e.val)
theorem findNow_pos {d : TypeDesc} {K : Value} {f : AV → Option Bool} : ∀ {es : List (AV × AV × Nat)} {E : List MapEntry} {p : Option Nat} (o : Nat), ERel ρ es E → (∀ k' K' b, Rel ρ k' K' → f k' = some b → Instr.sameNow d K K' = some b) →
    posA f es = some p → Instr.findNow d K E o = some (entryAt E o p)
  | _, _, p, o, .nil, _, hp => by simp [posA] at hp; subst hp; rfl
  | _, _, p, o, .cons k v K' V c r R hk hv hr, hf, hp => by
    unfold posA at hp
    unfold Instr.findNow
    cases hq : f k with
    | none => simp [hq] at hp
    | some b =>
      rw [hf k K' b hk hq]
      cases b with
      | true => simp [hq] at hp; subst hp; simp [entryAt]
      | false =>
        simp only [hq] at hp
        cases hr' : posA f r with
        | none => simp [hr'] at hp
        | some q =>
          simp [hr'] at hp
          subst hp
          dsimp only
          rw [findNow_pos (o + 1) hr hf hr']
          cases q with
          | none => simp [entryAt]
          | some i => simp [entryAt, show o + 1 + i = o + (i + 1) by omega]
theorem findAsking_pos {kt : Nat} {K : Value} {f : AV → Option Bool} : ∀ {es : List (AV × AV × Nat)} {E : List MapEntry} {p : Option Nat} (o : Nat), ERel ρ es E → (∀ k' K' b, Rel ρ k' K' → f k' = some b → (Op.equal kt K K').run P w = .ok b w) →
    posA f es = some p → (Instr.findAsking kt K E o).run P w = .ok (entryAt E o p) w
  | _, _, p, o, .nil, _, hp => by simp [posA] at hp; subst hp; rfl
  | _, _, p, o, .cons k v K' V c r R hk hv hr, hf, hp => by
    unfold posA at hp
    unfold Instr.findAsking
    cases hq : f k with
    | none => simp [hq] at hp
    | some b =>
      simp only [Sem.run_bind, hf k K' b hk hq, Result.andThen_ok]
      cases b with
      | true => simp [hq] at hp; subst hp; simp [entryAt]
      | false =>
        simp only [hq] at hp
        cases hr' : posA f r with
        | none => simp [hr'] at hp
        | some q =>
          simp [hr'] at hp
          subst hp
          simp only [Bool.false_eq_true, if_false]
          rw [findAsking_pos (o + 1) hr hf hr']
          cases q with
          | none => simp [entryAt]
          | some i => simp [entryAt, show o + 1 + i = o + (i + 1) by omega]
theorem keyT_cases {kt : Nat} (hk : keyT P kt = true) : ∃ d, P.underlying kt = some d ∧ (nowT d = true ∨ ∃ e, d = .pointer e) := by
  unfold keyT at hk
  cases hu : P.underlying kt with
  | none => simp [hu] at hk
  | some d => cases d <;> simp [hu] at hk <;> first | exact ⟨_, rfl, .inl rfl⟩ | exact ⟨_, rfl, .inr ⟨_, rfl⟩⟩
theorem findKey_ok (hP : TypesOk P) (hs : Sim w0 ρ h w) {kt : Nat} {k : AV} {K : Value} {es : List (AV × AV × Nat)} {E : List MapEntry} {p : Option Nat} (hkt : keyT P kt = true) (hk : Rel ρ k K) (hE : ERel ρ es E)
    (hp : posA (eqA P h 50 kt k) es = some p) : (Instr.findKey kt K E).run P w = .ok (entryAt E 0 p) w := by
  obtain ⟨d, hd, hc⟩ := keyT_cases hkt
  unfold Instr.findKey
  simp only [Sem.run_bind, run_underlying' hd, Result.andThen_ok]
  have h1 : ∀ k' K' b, Rel ρ k' K' → eqA P h 50 kt k k' = some b → (Op.equal kt K K').run P w = .ok b w := fun k' K' b hk' e => (key_eq hP hs hk hk' e d hd).1
  rcases hc with hn | ⟨el, hel⟩
  · have h2 : ∀ k' K' b, Rel ρ k' K' → eqA P h 50 kt k k' = some b → Instr.sameNow d K K' = some b := fun k' K' b hk' e => (key_eq hP hs hk hk' e d hd).2.1 hn
    rw [findNow_pos 0 hE h2 hp]
    rfl
  · cases hE with
    | nil => simp [posA] at hp; subst hp; rfl
    | cons k' v' K' V' c r R hk' hv' hr =>
      have hnone : Instr.findNow d K ({ key := K', val := V', born := c } :: R) 0 = none := by
        unfold posA at hp
        cases hq : eqA P h 50 kt k k' with
        | none => simp [hq] at hp
        | some b =>
          unfold Instr.findNow
          rw [((key_eq hP hs hk hk' hq d hd).2.2.1 el hel).1]
      rw [hnone]
      exact findAsking_pos 0 (.cons k' v' K' V' c r R hk' hv' hr) h1 hp
theorem checkKey_ok {kt : Nat} (hkt : keyT P kt = true) (b : Bool) (K : Value) : (Instr.checkKey b 10000 kt K).run P w = .ok () w := by
  obtain ⟨d, hd, hc⟩ := keyT_cases hkt
  have key : ∀ n, (Instr.checkKey b (n + 1) kt K).run P w = .ok () w := by
    intro n
    unfold Instr.checkKey
    simp only [Sem.run_bind, run_underlying' hd, Result.andThen_ok]
    rcases hc with hn | ⟨el, rfl⟩
    · cases d <;> simp [nowT] at hn <;> rfl
    · rfl
  exact key 9999
end
end Go.VM
namespace Go.VM
section
variable {P : Program} {w0 : World} {ρ : Rho} {h : Heap} {w : World}
theorem map_obj (hs : Sim w0 ρ h w) {m : Key} {L : Loc} (hm : ρ m = some L) {es : List (AV × AV × Nat)} {clock : Nat} (hg : h.get m = some (.map es clock)) :
    w0.heap.size ≤ L.B ∧ L.B < w.heap.size ∧ ∃ E, w.heap[L.B]? = some (.map E clock) ∧ ERel ρ es E.toList := by
  obtain ⟨o, ho, hlt, hr⟩ := hs.obj m L hm
  rw [hg] at ho; cases ho
  obtain ⟨hN, E, hO, hE⟩ := hr
  exact ⟨hN, hlt, E, hO, hE⟩
theorem xLookupIn_ok (hP : TypesOk P) (hs : Sim w0 ρ h w) {kt et : Nat} {es : List (AV × AV × Nat)} {E : Array MapEntry} {k : AV} {K : Value} {cok : Bool} (hkt : keyT P kt = true) (hk : Rel ρ k K) (hE : ERel ρ es E.toList) {s : Sem Value}
    (hyes : ∀ i V, (Instr.findKey kt K E.toList).run P w = .ok (some (i, V)) w → s.run P w = .ok (if cok then .tuple #[V, .bool true] else V) w)
    (hno : ∀ Z, (Instr.findKey kt K E.toList).run P w = .ok none w → (zeroValue et).run P w = .ok Z w → s.run P w = .ok (if cok then .tuple #[Z, .bool false] else Z) w) :
    ValOk P w0 ρ h w s (xLookupIn P kt et es k cok h) := by
  unfold xLookupIn
  cases hf : findKeyA P h kt k es with
  | none => exact trivial
  | some r =>
    obtain ⟨p, hp, hr⟩ := findKeyA_pos hf
    have hfind := findKey_ok hP hs hkt hk hE hp
    cases r with
    | some v =>
      dsimp only
      cases p with
      | none => simp at hr
      | some i =>
        simp only [Option.bind_some] at hr
        cases he : es[i]? with
        | none => simp [he] at hr
        | some e =>
          simp [he] at hr
          obtain ⟨K', V', hE', _, hv⟩ := hE.get? i he
          have hent : entryAt E.toList 0 (some i) = some (0 + i, V') := by simp [entryAt] at hE' ⊢; simp [hE']
          rw [hent] at hfind
          have := hyes _ V' hfind
          subst hr
          cases cok
          · exact here hs hv this
          · exact here hs (.tup _ [V', .bool true] (.cons _ _ _ _ hv (.cons _ _ _ _ (.bool true) .nil))) this
    | none =>
      dsimp only
      have hent : entryAt E.toList 0 p = none := by
        cases p with
        | none => rfl
        | some i =>
          simp only [Option.bind_some] at hr
          have : es[i]? = none := by
            cases he : es[i]? with
            | none => rfl
            | some e => simp [he] at hr
          have h2 : E.toList[i]? = none := by
            rw [List.getElem?_eq_none_iff] at this ⊢; rw [hE.length]; exact this
          simp [entryAt] at h2 ⊢; simp [h2]
      rw [hent] at hfind
      cases hz : zeroOf P et with
      | none => exact trivial
      | some z =>
        obtain ⟨Z, hzr, ho⟩ := zeroOf_some (w := w) hz
        have := hno Z hfind hzr
        have hzr' := ofVal_rel ρ Z z ho
        cases cok
        · exact here hs hzr' this
        · exact here hs (.tup _ [Z, .bool false] (.cons _ _ _ _ hzr' (.cons _ _ _ _ (.bool false) .nil))) this
theorem xLookup_ok (hP : TypesOk P) (hs : Sim w0 ρ h w) {t : Nat} {m k : AV} {M K : Value} {cok : Bool} (hm : Rel ρ m M) (hk : Rel ρ k K) : ValOk P w0 ρ h w (Instr.lookup t M K cok) (xLookup P t m k cok h) := by
  unfold xLookup
  cases hu : P.underlying t with
  | none => exact trivial
  | some d =>
    cases d with
    | map kt et =>
      dsimp only
      refine cond_ok (fun hkt => ?_) (fun _ => trivial)
      cases hm with
      | nilMap =>
        refine xLookupIn_ok (E := #[]) hP hs hkt hk .nil ?_ ?_
        · intro i V hr
          simp only [Instr.lookup, Sem.run_bind, run_underlying' hu, Result.andThen_ok, Sem.run_pure, checkKey_ok hkt, hr]
        · intro Z hr hz
          simp only [Instr.lookup, Sem.run_bind, run_underlying' hu, Result.andThen_ok, Sem.run_pure, checkKey_ok hkt, hr, hz]
      | map b L hb =>
        dsimp only
        cases hg : h.get b with
        | none => exact trivial
        | some o =>
          cases o with
          | map es clock =>
            obtain ⟨_, _, E, hO, hE⟩ := map_obj hs hb hg
            refine xLookupIn_ok (E := E) hP hs hkt hk hE ?_ ?_
            · intro i V hr
              simp only [Instr.lookup, Sem.run_bind, run_underlying' hu, Result.andThen_ok, run_getObj hO (by simp), Sem.run_pure, checkKey_ok hkt, hr]
            · intro Z hr hz
              simp only [Instr.lookup, Sem.run_bind, run_underlying' hu, Result.andThen_ok, run_getObj hO (by simp), Sem.run_pure, checkKey_ok hkt, hr, hz]
          | _ => exact trivial
      | _ => exact trivial
    | _ => exact trivial
theorem run_setObj {B : Nat} {O O' : Obj} (hO : w.heap[B]? = some O) (hne : ∀ C e q, O ≠ .cells C e q) : (setObj B O').run P w = .ok () (setBlock w B O') := by
  unfold setObj
  cases O <;> first | (exact absurd rfl (hne _ _ _)) | (simp [Sem.run, hO, setBlock])
/-- a map written over on both sides -/
theorem put_map (hs : Sim w0 ρ h w) {m : Key} {L : Loc} (hm : ρ m = some L) {es es' : List (AV × AV × Nat)} {E' : Array MapEntry} {clock clock' : Nat} (hg : h.get m = some (.map es clock)) (hE' : ERel ρ es' E'.toList) :
    Sim w0 ρ (h.put m (.map es' clock')) (setBlock w L.B (.map E' clock')) := by
  obtain ⟨hN, hlt, E, hO, hE⟩ := map_obj hs hm hg
  exact hs.put hm hg rfl hN rfl rfl (by simp [setBlock]) (fun k hk => setBlock_other hk) (setBlock_at hlt) ⟨hN, E', rfl, hE'⟩
theorem modify_toList (E : Array MapEntry) (i : Nat) (f : MapEntry → MapEntry) : (E.modify i f).toList = E.toList.modify i f := by
  simp
theorem erase_toList (E : Array MapEntry) (i : Nat) : (E.eraseIdxIfInBounds i).toList = E.toList.eraseIdx i := by
  unfold Array.eraseIdxIfInBounds
  split
  · simp
  · rename_i hn
    rw [List.eraseIdx_of_length_le (by simp; omega)]
theorem posA_at {f : AV → Option Bool} : ∀ {es : List (AV × AV × Nat)} {i : Nat} {e : AV × AV × Nat}, posA f es = some (some i) → es[i]? = some e → f e.1 = some true
  | [], i, e, hp, _ => by simp [posA] at hp
  | (k', v, c) :: es, i, e, hp, he => by
    unfold posA at hp
    cases hq : f k' with
    | none => simp [hq] at hp
    | some b =>
      cases b with
      | true => simp [hq] at hp; subst hp; simp at he; subst he; exact hq
      | false =>
        simp only [hq] at hp
        cases hr : posA f es with
        | none => simp [hr] at hp
        | some p =>
          simp [hr] at hp
          cases p with
          | none => simp at hp
          | some j => simp at hp; subst hp; simp at he; exact posA_at hr he
theorem xMapUpdate_ok (hP : TypesOk P) (hs : Sim w0 ρ h w) {t : Nat} {m k v : AV} {M K V : Value} (hm : Rel ρ m M) (hk : Rel ρ k K) (hv : Rel ρ v V) : UnitOk P w0 ρ h w (Instr.mapUpdate t M K V) (xMapUpdate P t m k v h) := by
  unfold xMapUpdate
  cases hu : P.underlying t with
  | none => exact trivial
  | some d =>
    cases d with
    | map kt et =>
      cases hm with
      | map b L hb =>
        dsimp only
        cases hkt : keyT P kt with
        | false => exact trivial
        | true =>
          simp only [cond_true]
          cases hg : h.get b with
          | none => exact trivial
          | some o =>
            cases o with
            | map es clock =>
              obtain ⟨_, hlt, E, hO, hE⟩ := map_obj hs hb hg
              dsimp only
              cases hset : setKeyA P h kt k v clock es with
              | none => exact trivial
              | some x =>
                obtain ⟨es', nw⟩ := x
                obtain ⟨p, hp, hm⟩ := setKeyA_pos hset
                have hfind := findKey_ok hP hs hkt hk hE hp
                cases p with
                | none =>
                  obtain ⟨rfl, rfl⟩ := hm
                  refine ⟨rfl, ρ, _, Sub.refl _, kept_put hb, put_map hs hb hg (E' := E.push { key := K, val := V, born := clock }) (by simpa using hE.append (.cons k v K V clock _ _ hk hv .nil)), ?_⟩
                  have hent : entryAt E.toList 0 none = none := rfl
                  rw [hent] at hfind
                  simp only [Instr.mapUpdate, Sem.run_bind, run_underlying' hu, Result.andThen_ok, run_getObj hO (by simp), checkKey_ok hkt, hfind, run_setObj hO (by simp)]
                | some i =>
                  obtain ⟨rfl, hi, rfl⟩ := hm
                  have hlen := hE.length
                  have hi' : i < E.size := by simp at hlen; omega
                  obtain ⟨e, he⟩ : ∃ e, es[i]? = some e := ⟨_, List.getElem?_eq_getElem hi⟩
                  obtain ⟨K', V', hE', hk', hv'⟩ := hE.get? i he
                  have hEi : E[i]? = some { key := K', val := V', born := e.2.2 } := by simpa using hE'
                  have hent : entryAt E.toList 0 (some i) = some (i, V') := by simp [entryAt, hEi]
                  rw [hent] at hfind
                  refine ⟨rfl, ρ, _, Sub.refl _, kept_put hb, put_map hs hb hg (E' := E.modify i fun e => { e with key := K, val := V }) (by rw [modify_toList]; exact ERel.modify hk hv i hE), ?_⟩
                  have hsame : Instr.sameBits 10000 K' K = true := by
                    obtain ⟨d, hd, hc⟩ := keyT_cases hkt
                    have hq : eqA P h 50 kt k e.1 = some true := posA_at hp he
                    rcases hc with hn | ⟨el, hel⟩
                    · exact (key_eq hP hs hk hk' hq d hd).2.2.2 hn rfl 10000
                    · exact ((key_eq hP hs hk hk' hq d hd).2.2.1 el hel).2 rfl 10000
                  simp only [Instr.mapUpdate, Sem.run_bind, run_underlying' hu, Result.andThen_ok, run_getObj hO (by simp), checkKey_ok hkt, hfind, hEi, Option.map_some, Option.getD_some, Instr.keyThatStays, hsame, if_true, Sem.run_pure, run_setObj hO (by simp)]
            | _ => exact trivial
      | _ => exact trivial
    | _ => exact trivial
end
end Go.VM
namespace Go.VM
section
variable {P : Program} {w0 : World} {ρ : Rho} {h : Heap} {w : World}
theorem posA_lt {f : AV → Option Bool} : ∀ {es : List (AV × AV × Nat)} {i : Nat}, posA f es = some (some i) → es[i]? = none → False
  | [], i, hp, _ => by simp [posA] at hp
  | (k', v, c) :: es, i, hp, he => by
    unfold posA at hp
    cases hq : f k' with
    | none => simp [hq] at hp
    | some b =>
      cases b with
      | true => simp [hq] at hp; subst hp; simp at he
      | false =>
        simp only [hq] at hp
        cases hr : posA f es with
        | none => simp [hr] at hp
        | some p =>
          simp [hr] at hp
          cases p with
          | none => simp at hp
          | some j => simp at hp; subst hp; simp at he; exact posA_lt hr (by simpa using he)
theorem xDelete_ok (hP : TypesOk P) (hs : Sim w0 ρ h w) {t ty : Nat} {ts : Array Nat} {m k : AV} {M K : Value} (ht : ts[0]? = some t) (hm : Rel ρ m M) (hk : Rel ρ k K) : ValOk P w0 ρ h w (Builtin.delete_ ts ty #[M, K]) (xDelete P t m k h) := by
  unfold xDelete
  cases hm with
  | nilMap =>
    dsimp only
    cases hu : P.underlying t with
    | none => exact trivial
    | some d =>
      cases d with
      | map kt et =>
        dsimp only
        refine cond_ok (fun hkt => ?_) (fun _ => trivial)
        refine here hs .undef ?_
        simp only [Builtin.delete_, ht]
        simp [run_underlying' hu, checkKey_ok hkt]
      | _ => exact trivial
  | map b L hb =>
    dsimp only
    cases hu : P.underlying t with
    | none => exact trivial
    | some d =>
      cases d with
      | map kt et =>
        dsimp only
        refine cond_ok (fun hkt => ?_) (fun _ => trivial)
        cases hg : h.get b with
        | none => exact trivial
        | some o =>
          cases o with
          | map es clock =>
            obtain ⟨_, hlt, E, hO, hE⟩ := map_obj hs hb hg
            dsimp only
            cases hd : delKeyA P h kt k es with
            | none => exact trivial
            | some es' =>
              obtain ⟨p, hp, rfl⟩ := delKeyA_pos hd
              have hfind := findKey_ok hP hs hkt hk hE hp
              cases p with
              | none =>
                refine ⟨ρ, .tuple #[], _, Sub.refl _, kept_put hb, put_map hs hb hg (E' := E) hE, .undef, ?_⟩
                have hent : entryAt E.toList 0 none = none := rfl
                rw [hent] at hfind
                simp [Builtin.delete_, ht, run_underlying' hu, run_getObj hO (by simp), checkKey_ok hkt, hfind, run_setObj hO (by simp)]
              | some i =>
                refine ⟨ρ, .tuple #[], _, Sub.refl _, kept_put hb, put_map hs hb hg (E' := E.eraseIdxIfInBounds i) (by rw [erase_toList]; exact hE.eraseIdx i), .undef, ?_⟩
                have hi : ∃ e, E[i]? = some e := by
                  cases he : E[i]? with
                  | some e => exact ⟨e, rfl⟩
                  | none =>
                    exfalso
                    have : es[i]? = none := by
                      rw [List.getElem?_eq_none_iff]; have := hE.length; simp at he this; omega
                    exact posA_lt hp this
                obtain ⟨e, he⟩ := hi
                have hent : entryAt E.toList 0 (some i) = some (i, e.val) := by simp [entryAt, he]
                rw [hent] at hfind
                simp [Builtin.delete_, ht, run_underlying' hu, run_getObj hO (by simp), checkKey_ok hkt, hfind, run_setObj hO (by simp)]
          | _ => exact trivial
      | _ => exact trivial
  | _ => exact trivial
theorem xLen_ok (hs : Sim w0 ρ h w) {t ty : Nat} {ts : Array Nat} {x : AV} {X : Value} (ht : ts[0]? = some t) (hx : Rel ρ x X) : ValOk P w0 ρ h w (Builtin.len_ ts ty #[X]) (xLen P t x h) := by
  unfold xLen
  cases hu : P.underlying t with
  | none => exact trivial
  | some d =>
    cases d with
    | string => cases hx with
      | str l c hc => exact here hs (.int .i64 _) (by simp [Builtin.len_, ht, run_underlying' hu, strOf_size, goInt])
      | _ => exact trivial
    | slice e => cases hx with
      | nilSlice => exact here hs (.int .i64 _) (by simp [Builtin.len_, ht, run_underlying' hu, goInt])
      | emptyS a c => exact here hs (.int .i64 _) (by simp [Builtin.len_, ht, run_underlying' hu, goInt])
      | sliceIs b off len c L hb => exact here hs (.int .i64 _) (by simp [Builtin.len_, ht, run_underlying' hu, goInt])
      | sliceMore b off len c sz L hb h1 h2 => exact here hs (.int .i64 _) (by simp [Builtin.len_, ht, run_underlying' hu, goInt])
      | _ => exact trivial
    | map kt et => cases hx with
      | nilMap => exact here hs (.int .i64 _) (by simp [Builtin.len_, ht, run_underlying' hu, goInt])
      | map b L hb =>
        dsimp only
        cases hg : h.get b with
        | none => exact trivial
        | some o =>
          cases o with
          | map es clock =>
            obtain ⟨_, hlt, E, hO, hE⟩ := map_obj hs hb hg
            dsimp only
            refine here hs (.int .i64 _) ?_
            have := hE.length
            simp only [Array.length_toList] at this
            simp [Builtin.len_, ht, run_underlying' hu, run_getObj hO (by simp), goInt, len_eq, this]
          | _ => exact trivial
      | _ => exact trivial
    | array n e => exact here hs (.int .i64 _) (by simp [Builtin.len_, ht, run_underlying' hu, goInt])
    | pointer a =>
      dsimp only
      cases hu2 : P.underlying a with
      | none => exact trivial
      | some d2 =>
        cases d2 with
        | array n e => exact here hs (.int .i64 _) (by simp [Builtin.len_, ht, run_underlying' hu, run_underlying' hu2, goInt])
        | _ => exact trivial
    | _ => exact trivial
end
end Go.VM
namespace Go.VM
section
variable {P : Program} {w0 : World} {ρ : Rho} {h : Heap} {w : World}
theorem unseen_ok {seen : List Nat} : ∀ {es : List (AV × AV × Nat)} {E : List MapEntry}, ERel ρ es E → ERel ρ (unseen seen es) (E.filter fun e => !(seen.contains e.born))
  | _, _, .nil => by simpa [unseen] using ERel.nil
  | _, _, .cons k v K V c r R hk hv hr => by
    have hany : seen.any (fun n => Nat.beq n c) = seen.contains c := by
      rw [Bool.eq_iff_iff]
      simp [List.any_eq_true]
    simp only [unseen, List.filter_cons]
    rw [hany]
    cases hc : seen.contains c with
    | true => simpa [hc] using unseen_ok hr
    | false => simpa [hc] using ERel.cons k v K V c _ _ hk hv (unseen_ok hr)
theorem anyOld_ok {last : Nat} : ∀ {es : List (AV × AV × Nat)} {E : List MapEntry}, ERel ρ es E → anyOld last es = !(E.all fun e => decide (e.born ≥ last))
  | _, _, .nil => by simp [anyOld]
  | _, _, .cons k v K V c r R hk hv hr => by
    simp only [anyOld, List.all_cons]
    cases hb : Nat.blt c last with
    | true => have := blt_lt hb; simp; exact .inl this
    | false =>
      have : ¬ c < last := by intro e; rw [← Nat.blt_eq] at e; rw [hb] at e; cases e
      have h2 : decide (c ≥ last) = true := by simp; omega
      simp [anyOld_ok hr, h2]
theorem allOld_ok {since : Nat} : ∀ {es : List (AV × AV × Nat)} {E : List MapEntry}, ERel ρ es E → allOld since es = true → ∀ e ∈ E, e.born < since
  | _, _, .nil, _, e, he => by cases he
  | _, _, .cons k v K V c r R hk hv hr, h, e, he => by
    unfold allOld at h
    cases hb : Nat.blt c since with
    | false => simp [hb] at h
    | true =>
      simp only [hb, cond_true] at h
      cases he with
      | head => exact blt_lt hb
      | tail _ he => exact allOld_ok hr h e he
theorem altsOf_mem {b m : Key} {since clock : Nat} {seen : List Nat} {e : AV × AV × Nat} : ∀ {l : List (AV × AV × Nat)}, e ∈ l → ((.tup [.bool true, e.1, e.2.1], h.put b (.miter (some m) since (cat seen [e.2.2]) clock)) : AV × Heap) ∈ altsOf b m since seen clock h l
  | [], h => by cases h
  | x :: r, hm => by
    obtain ⟨k, v, c⟩ := x
    unfold altsOf
    cases hm with
    | head => simp
    | tail _ hm => exact List.mem_cons_of_mem _ (altsOf_mem hm)
theorem xNext_map (hs : Sim w0 ρ h w) {b m : Key} {L Lm : Loc} {since last clock : Nat} {seen : List Nat} {es : List (AV × AV × Nat)} {ty : TypeId} (hb : ρ b = some L) (hbase : L.base = 0) (hg : h.get b = some (.miter (some m) since seen last)) (hm : ρ m = some Lm)
    (hgm : h.get m = some (.map es clock)) : ValOk P w0 ρ h w (Instr.next (.pointer (some ⟨L.B, 0, none⟩)) false ty) (nextIn b m since seen last es clock h) := by
  obtain ⟨o, ho, hlt, hr⟩ := hs.obj b L hb
  rw [hg] at ho; cases ho
  obtain ⟨hN, _, M, hO, Lm', hm', rfl⟩ := hr
  rw [hm] at hm'; cases hm'
  obtain ⟨_, hltm, E, hOm, hE⟩ := map_obj hs hm hgm
  unfold nextIn
  refine cond_ok (fun hc => ?_) (fun _ => trivial)
  have hall : ¬ ((!(⟨seen⟩ : Array Nat).isEmpty && !E.isEmpty && E.all fun x => decide (x.born ≥ last)) = true) := by
    intro hh
    simp only [Bool.and_eq_true] at hh
    obtain ⟨⟨h1, h2⟩, h3⟩ := hh
    simp only [Bool.or_eq_true] at hc
    rcases hc with (hc | hc) | hc
    · have : seen = [] := by simpa using hc
      subst this; simp at h1
    · have he : es = [] := by simpa using hc
      have : E.toList = [] := by apply List.eq_nil_of_length_eq_zero; rw [hE.length, he]; rfl
      have : E = #[] := by simpa using this
      subst this; simp at h2
    · rw [anyOld_ok hE] at hc
      rw [← Array.all_toList] at h3
      rw [h3] at hc; cases hc
  have hleft := unseen_ok (seen := seen) hE
  have hfil : (E.filter fun e => !(⟨seen⟩ : Array Nat).contains e.born) = (E.toList.filter fun e => !(seen.contains e.born)).toArray := by
    rw [← Array.toList_inj] 
    simp
  have pre : ∀ R, (match ((if (((E.filter fun e => !(⟨seen⟩ : Array Nat).contains e.born).filter (·.born < since)).isEmpty) then #[none] else #[]) ++ (((E.filter fun e => !(⟨seen⟩ : Array Nat).contains e.born).filter (·.born < since)) ++ ((E.filter fun e => !(⟨seen⟩ : Array Nat).contains e.born).filter (·.born ≥ since))).map some : Array (Option MapEntry)) with
      | candidates => (do match candidates[← choose (.mapNext candidates.size)]? with
        | some (some e) => setObj L.B (.mapIter (some Lm.B) since ((⟨seen⟩ : Array Nat).push e.born) clock); pure (.tuple #[.bool true, e.key, e.val])
        | some none => pure (.tuple #[.bool false])
        | none => stuck "Next: no such candidate" : Sem Value)).run P w = R → (Instr.next (.pointer (some ⟨L.B, 0, none⟩)) false ty).run P w = R := by
    intro R hR
    rw [← hR]
    simp only [Instr.next, Sem.run_bind, run_getObj hO (by simp), run_getObj hOm (by simp), Result.andThen_ok, if_neg hall]
    rfl
  generalize (E.filter fun e => !(⟨seen⟩ : Array Nat).contains e.born) = F at *
  have hfin : ∀ k v c K V (C : Array (Option MapEntry)) (j : Nat), Rel ρ k K → Rel ρ v V → F.filter (·.born < since) = F → F.isEmpty = false →
      (F.filter (·.born ≥ since) = #[]) → (choose (.mapNext F.size)).run P w = .ok j (if F.size ≤ 1 then w else w.drew) →
      F[j]? = some { key := K, val := V, born := c } →
      OpVal P w0 ρ h w (Instr.next (.pointer (some ⟨L.B, 0, none⟩)) false ty) (.tup [.bool true, k, v]) (h.put b (.miter (some m) since (cat seen [c]) clock)) := by
    intro k v c K V C j hk hv hold hne hnew hch hj
    generalize hw1 : (if F.size ≤ 1 then w else w.drew) = w1 at hch
    have hs1 : Sim w0 ρ h w1 := by rw [← hw1]; split; exact hs; exact hs.drew
    have hO1 : w1.heap[L.B]? = some (.mapIter (some Lm.B) since ⟨seen⟩ last) := by rw [← hw1]; split; exact hO; exact hO
    have hlt1 : L.B < w1.heap.size := by rw [← hw1]; split; exact hlt; exact hlt
    refine ⟨ρ, .tuple ⟨[.bool true, K, V]⟩, setBlock w1 L.B (.mapIter (some Lm.B) since ((⟨seen⟩ : Array Nat).push c) clock), Sub.refl _, kept_put hb, ?_, .tup _ _ (.cons _ _ _ _ (.bool true) (.cons _ _ _ _ hk (.cons _ _ _ _ hv .nil))), pre _ ?_⟩
    · exact hs1.put hb hg rfl hN rfl rfl (by simp [setBlock]) (fun k hk => setBlock_other hk) (setBlock_at hlt1) ⟨hN, hbase, some Lm.B, by rw [cat_eq]; simp, Lm, hm, rfl⟩
    · rw [hold, hnew, hne]
      have hsz : (((if false = true then #[none] else #[]) ++ (F ++ #[]).map some : Array (Option MapEntry))) = F.map some := by simp
      rw [hsz]
      simp only [Array.size_map, Sem.run_bind, hch, Result.andThen_ok, Array.getElem?_map, hj, Option.map_some, run_setObj hO1 (by simp), Sem.run_pure]
  have hidx : ∀ (i : Nat) (e : AV × AV × Nat), (unseen seen es)[i]? = some e → ∃ K V, F[i]? = some { key := K, val := V, born := e.2.2 } ∧ Rel ρ e.1 K ∧ Rel ρ e.2.1 V := by
    intro i e he
    obtain ⟨K, V, h1, h2⟩ := hleft.get? i he
    exact ⟨K, V, by rw [hfil]; simpa using h1, h2⟩
  have hsize : F.size = (unseen seen es).length := by rw [hfil, ← hleft.length]; simp
  have hold : allOld since (unseen seen es) = true → F.filter (·.born < since) = F ∧ F.filter (·.born ≥ since) = #[] := by
    intro ho
    rw [hfil]
    have := allOld_ok hleft ho
    constructor
    · apply Array.ext'; simp only [Array.toList_filter]
      rw [List.filter_eq_self]; intro e he; simpa using this e he
    · apply Array.ext'; simp only [Array.toList_filter]
      rw [List.filter_eq_nil_iff]; intro e he; have := this e he; simp; omega
  generalize hun : unseen seen es = us at *
  unfold nextOf
  split
  · have hl : (E.toList.filter fun e => !(seen.contains e.born)) = [] := by
      cases hx : (E.toList.filter fun e => !(seen.contains e.born)) with
      | nil => rfl
      | cons => rw [hx] at hleft; cases hleft
    refine here hs (.tup [.bool false] [.bool false] (.cons _ _ _ _ (.bool false) .nil)) (pre _ ?_)
    rw [hfil, hl]
    simp [choose, Sem.run, Question.forced]
  · rename_i k v c
    refine cond_ok (fun hcc => ?_) (fun _ => trivial)
    obtain ⟨K, V, hj, hk, hv⟩ := hidx 0 (k, v, c) (by simp)
    obtain ⟨h1, h2⟩ := hold (by simp [allOld, hcc])
    refine hfin k v c K V #[] 0 hk hv h1 ?_ h2 ?_ hj
    · rw [← Bool.not_eq_true]; intro he; have : F.size = 0 := by simpa using he
      rw [hsize] at this; simp at this
    · rw [hsize]; simp [choose, Sem.run, Question.forced]
  · rename_i h0 h1
    refine cond_ok (fun hcc => ?_) (fun _ => trivial)
    obtain ⟨o1, o2⟩ := hold hcc
    have hpos : 2 ≤ us.length := by
      rcases us with _ | ⟨a, _ | ⟨b, r⟩⟩
      · exact absurd rfl h0
      · obtain ⟨k, v, c⟩ := a; exact absurd rfl (h1 k v c)
      · simp
    have hch : (choose (.mapNext F.size)).run P w = .ok (w.tape w.drawn (.mapNext us.length) % us.length) w.drew := by
      rw [hsize]
      have : ¬ us.length ≤ 1 := by omega
      simp [choose, Sem.run, Question.forced, this, Question.cut]
    have hjl : w.tape w.drawn (.mapNext us.length) % us.length < us.length := Nat.mod_lt _ (by omega)
    obtain ⟨e, he⟩ : ∃ e, us[w.tape w.drawn (.mapNext us.length) % us.length]? = some e := ⟨_, List.getElem?_eq_getElem hjl⟩
    obtain ⟨K, V, hj, hk, hv⟩ := hidx _ e he
    have hmem := altsOf_mem (b := b) (m := m) (since := since) (seen := seen) (clock := clock) (h := h) (List.mem_of_getElem? he)
    refine ⟨_, hmem, hfin e.1 e.2.1 e.2.2 K V #[] _ hk hv o1 ?_ o2 ?_ hj⟩
    · rw [← Bool.not_eq_true]; intro he; have : F.size = 0 := by simpa using he
      rw [hsize] at this; omega
    · rw [hch, hsize]; rw [if_neg (by omega)]
theorem decode_ascii' (l c pos : Nat) (hp : pos < l) (hb : c / 256 ^ pos % 256 < 128) : Utf8.decode (strOf l c) pos = (c / 256 ^ pos % 256, 1) := by
  have hsz : pos < (strOf l c).size := by rw [strOf_size]; exact hp
  have hg := strBytes_get l c pos hp
  have hbyte : (strOf l c)[pos] = UInt8.ofNat (c / 256 ^ pos) := by
    have hlen : pos < (strBytes l c).length := by rw [strBytes_length]; exact hp
    rw [List.getElem?_eq_getElem hlen] at hg
    exact Option.some.inj hg
  have ht : ((strOf l c)[pos]'hsz).toNat = c / 256 ^ pos % 256 := by rw [hbyte]; simp
  rw [decode_ascii _ pos hsz (by rw [ht]; exact hb), ht]
theorem xNext_ok (hs : Sim w0 ρ h w) {it : AV} {It : Value} {isStr : Bool} {ty : TypeId} (hit : Rel ρ it It) : ValOk P w0 ρ h w (Instr.next It isStr ty) (xNext it isStr h) := by
  cases hit with
  | ptr b off L hb =>
    dsimp only [xNext]
    refine cond_ok (fun hoff => ?_) (fun _ => trivial)
    have hoff := Nat.eq_of_beq_eq_true hoff
    subst hoff
    unfold xNextAt
    obtain ⟨o, ho, hlt, hr⟩ := hs.obj b L hb
    cases o with
    | miter m since seen last =>
      have hr0 := hr
      obtain ⟨hN, hbase, M, hO, hM⟩ := hr
      rw [hbase]
      cases m with
      | none =>
        rw [ho]
        dsimp only
        refine cond_ok (fun _ => trivial) (fun hst => ?_)
        subst hst
        dsimp only at hM
        subst hM
        exact here hs (.tup [.bool false] [.bool false] (.cons _ _ _ _ (.bool false) .nil)) (by simp [Instr.next, run_getObj hO (by simp)])
      | some m =>
        rw [ho]
        dsimp only
        refine cond_ok (fun _ => trivial) (fun hst => ?_)
        subst hst
        obtain ⟨Lm, hm, rfl⟩ := hM
        unfold xNextM
        cases hg : h.get m with
        | none => exact trivial
        | some om =>
          cases om with
          | map es clock => exact xNext_map hs hb hbase ho hm hg
          | _ => exact trivial
    | siter len code pos =>
      obtain ⟨hN, hbase, hcode, hO⟩ := hr
      rw [ho, hbase]
      dsimp only
      refine cond_ok (fun hst => ?_) (fun _ => trivial)
      subst hst
      unfold xNextS
      refine cond_ok (fun hpos => ?_) (fun hpos => ?_)
      · rw [forceN_eq, shift_byte]
        refine cond_ok (fun hc => ?_) (fun _ => trivial)
        have hp := blt_lt hpos
        have hc' := blt_lt hc
        have hd := decode_ascii' len code pos hp hc'
        refine ⟨ρ, .tuple ⟨[.bool true, .int .i64 (Int.ofNat pos), .int .i32 (Int.ofNat (code / 256 ^ pos % 256))]⟩, setBlock w L.B (.stringIter (strOf len code) (pos + 1)), Sub.refl _, kept_put hb, ?_, .tup _ _ (.cons _ _ _ _ (.bool true) (.cons _ _ _ _ (.int _ _) (.cons _ _ _ _ (.int _ _) .nil))), ?_⟩
        · exact hs.put hb ho rfl hN rfl rfl (by simp [setBlock]) (fun k hk => setBlock_other hk) (setBlock_at hlt) ⟨hN, hbase, hcode, rfl⟩
        · simp [Instr.next, run_getObj hO (by simp), strOf_size, hp, hd, run_setObj hO (by simp), goInt]
      · have hp : ¬ pos < len := by intro e; rw [← Nat.blt_eq] at e; rw [hpos] at e; cases e
        exact here hs (.tup [.bool false] [.bool false] (.cons _ _ _ _ (.bool false) .nil)) (by simp [Instr.next, run_getObj hO (by simp), strOf_size, hp])
    | _ => rw [ho]; exact trivial
  | _ => exact trivial
theorem find_born {st : Nat} : ∀ {es : List (AV × AV × Nat)} {E : List MapEntry} {x : AV × AV × Nat}, ERel ρ es E → es.find? (fun e => Nat.beq e.2.2 st) = some x → ∃ K V, E.find? (·.born == st) = some { key := K, val := V, born := x.2.2 } ∧ Rel ρ x.1 K ∧ Rel ρ x.2.1 V
  | _, _, x, .nil, e => by simp at e
  | _, _, x, .cons k v K V c r R hk hv hr, e => by
    simp only [List.find?_cons] at e ⊢
    cases hc : Nat.beq c st with
    | true =>
      have := Nat.eq_of_beq_eq_true hc
      subst this
      simp at e
      subst e
      exact ⟨K, V, by simp, hk, hv⟩
    | false =>
      have hne : (c == st) = false := by rw [beq_eq_false_iff_ne]; intro e0; subst e0; simp at hc
      simp only [hc] at e
      obtain ⟨K2, V2, e2, r2⟩ := find_born hr e
      exact ⟨K2, V2, by simp only [hne]; exact e2, r2⟩
theorem xEntry_ok (hs : Sim w0 ρ h w) {it : AV} {It : Value} (hit : Rel ρ it It) : ValOk P w0 ρ h w (Instr.entry It) (xEntry it h) := by
  cases hit with
  | ptr b off L hb =>
    dsimp only [xEntry]
    refine cond_ok (fun hoff => ?_) (fun _ => trivial)
    have hoff := Nat.eq_of_beq_eq_true hoff
    subst hoff
    unfold xEntryAt
    obtain ⟨o, ho, hlt, hr⟩ := hs.obj b L hb
    cases o with
    | miter m since seen last =>
      obtain ⟨hN, hbase, M, hO, hM⟩ := hr
      rw [ho, hbase]
      cases m with
      | none => exact trivial
      | some m =>
        obtain ⟨Lm, hm, rfl⟩ := hM
        dsimp only
        cases hg : h.get m with
        | none => exact trivial
        | some om =>
          cases om with
          | map es clock =>
            obtain ⟨_, _, E, hOm, hE⟩ := map_obj hs hm hg
            cases hl : seen.getLast? with
            | none => exact trivial
            | some st =>
              dsimp only
              refine cond_ok (fun hc => ?_) (fun _ => trivial)
              have hc := Nat.eq_of_beq_eq_true hc
              subst hc
              cases hf : es.find? (fun e => Nat.beq e.2.2 st) with
              | none => exact trivial
              | some x =>
                obtain ⟨k, v, c⟩ := x
                obtain ⟨K, V, hfe, hk, hv⟩ := find_born hE hf
                have hback : (⟨seen⟩ : Array Nat).back? = some st := by rw [Array.back?_eq_getElem?]; rw [List.getLast?_eq_getElem?] at hl; simpa using hl
                have hfe' : E.find? (·.born == st) = some { key := K, val := V, born := c } := by rw [← Array.find?_toList]; exact hfe
                refine here hs (.tup [k, v] [K, V] (.cons _ _ _ _ hk (.cons _ _ _ _ hv .nil))) ?_
                simp [Instr.entry, run_getObj hO (by simp), run_getObj hOm (by simp), hback, hfe']
          | _ => exact trivial
    | _ => rw [ho]; exact trivial
  | _ => exact trivial
end
end Go.VM
namespace Go.VM
section
variable {P : Program} {w0 : World} {ρ : Rho} {h : Heap} {w : World}
/-- an optional operand, on both sides -/
def ORel (ρ : Rho) : Option AV → Option Value → Prop
  | none, none => True
  | some a, some A => Rel ρ a A
  | _, _ => False
def BIs (X : Option Value) (n dflt most : Nat) : Prop := match X with | none => n = dflt | some V => n ≤ most ∧ ∃ kd, V = .int kd (Int.ofNat n)
theorem BIs.weaken {X : Option Value} {n d m m' : Nat} (hb : BIs X n d m) (hm : m ≤ m') : BIs X n d m' := by
  cases X with
  | none => exact hb
  | some V => exact ⟨Nat.le_trans hb.1 hm, hb.2⟩
theorem BIs.le {X : Option Value} {n d m : Nat} (hb : BIs X n d m) (hm : d ≤ m) : n ≤ m := by
  cases X with
  | none => have : n = d := hb; omega
  | some V => exact hb.1
theorem bnd_ok {x : Option AV} {X : Option Value} (hx : ORel ρ x X) {dflt most : Nat} {k : Nat → Res} {s : Sem Value}
    (hk : ∀ n, BIs X n dflt most → ValOk P w0 ρ h w s (k n)) : ValOk P w0 ρ h w s (bnd x dflt most k) := by
  unfold bnd boundsA
  cases x with
  | none => cases X with
    | none => exact hk dflt rfl
    | some V => exact hx.elim
  | some a => cases X with
    | none => exact hx.elim
    | some V =>
      cases hx with
      | int kd n =>
        cases n with
        | ofNat n =>
          dsimp only
          cases hb : Nat.ble n most with
          | false => exact trivial
          | true => exact hk n ⟨Nat.le_of_ble_eq_true hb, kd, rfl⟩
        | negSucc n => exact trivial
      | _ => exact trivial
theorem run_sliceBound {k : IntKind} {n y : Nat} {c : BoundsCode} (hn : n ≤ y) : (Instr.sliceBound (.int k ((n : Nat) : Int)) y c).run P w = .ok n w := by
  have : (0 : Int) ≤ (n : Int) ∧ (n : Int) ≤ (y : Int) := by omega
  simp [Instr.sliceBound, asIntOf, hn]
/-- the three bounds, as the model finds them -/
theorem run_sliceBounds {isS : Bool} {len cap : Nat} {lo hi mx : Option Value} {m hh l : Nat}
    (hm : BIs mx m cap cap)
    (hhi : BIs hi hh len m)
    (hlo : BIs lo l 0 hh)
    (hno : mx.isSome = true → hi.isSome = true) : (Instr.sliceBounds isS len cap lo hi mx).run P w = .ok (l, hh, m) w := by
  cases mx with
  | none =>
    dsimp only [BIs] at hm
    subst hm
    cases hi with
    | none =>
      dsimp only [BIs] at hhi; subst hhi
      cases lo with
      | none => dsimp only [BIs] at hlo; subst hlo; simp [Instr.sliceBounds]
      | some V => obtain ⟨h1, kd, rfl⟩ := hlo; simp [Instr.sliceBounds, run_sliceBound h1]
    | some H =>
      obtain ⟨h2, kd2, rfl⟩ := hhi
      cases lo with
      | none => dsimp only [BIs] at hlo; subst hlo; simp [Instr.sliceBounds, run_sliceBound h2]
      | some V => obtain ⟨h1, kd, rfl⟩ := hlo; simp [Instr.sliceBounds, run_sliceBound h1, run_sliceBound h2]
  | some M =>
    obtain ⟨h3, kd3, rfl⟩ := hm
    cases hi with
    | none => simp at hno
    | some H =>
      obtain ⟨h2, kd2, rfl⟩ := hhi
      cases lo with
      | none => dsimp only [BIs] at hlo; subst hlo; simp [Instr.sliceBounds, run_sliceBound h2, run_sliceBound h3]
      | some V => obtain ⟨h1, kd, rfl⟩ := hlo; simp [Instr.sliceBounds, run_sliceBound h1, run_sliceBound h2, run_sliceBound h3]
theorem subStr_eq (code l n : Nat) : subStr code l n = code / 256 ^ l % 256 ^ n := by
  unfold subStr
  show (code >>> (8 * l)) % 2 ^ (8 * n) = _
  rw [Nat.shiftRight_eq_div_pow, Nat.pow_mul, Nat.pow_mul]
theorem strOf_extract {len code l hh : Nat} (h1 : l ≤ hh) (h2 : hh ≤ len) : (strOf len code).extract l hh = strOf (hh - l) (subStr code l (hh - l)) := by
  apply ByteArray.ext
  rw [ByteArray.data_extract]
  apply Array.ext'
  show ((⟨strBytes len code⟩ : Array UInt8).extract l hh).toList = strBytes (hh - l) (subStr code l (hh - l))
  rw [subStr_eq]
  have e1 := strBytes_drop l (len - l) code
  rw [show l + (len - l) = len by omega] at e1
  have e2 := strBytes_take (hh - l) (len - hh) (code / 256 ^ l)
  rw [show hh - l + (len - hh) = len - l by omega] at e2
  rw [← e2, ← e1]
  simp
theorem sliceIs_ok (hs : Sim w0 ρ h w) {size : Nat} {b : Key} {L : Loc} {off len c : Nat} {lo hi mx : Option AV} {Lo Hi Mx : Option Value} (hb : ρ b = some L) (hl : ORel ρ lo Lo) (hh : ORel ρ hi Hi) (hm : ORel ρ mx Mx) {s : Sem Value}
    (hrun : ∀ l r m, (∀ isS, (Instr.sliceBounds isS len c Lo Hi Mx).run P w = .ok (l, r, m) w) → s.run P w = .ok (.slice (some (if m = l then ⟨L.B, L.base + off, none⟩ else (⟨L.B, L.base + off, none⟩ : Addr).add (l * size))) (r - l) (m - l)) w) :
    ValOk P w0 ρ h w s (sliceIs size b off len c lo hi mx h) := by
  unfold sliceIs
  refine cond_ok (fun _ => trivial) (fun hmh => ?_)
  refine bnd_ok hm fun m hm' => ?_
  have hno : Mx.isSome = true → Hi.isSome = true := by
    intro e
    cases Mx with
    | none => cases e
    | some M => cases mx with
      | none => exact hm.elim
      | some _ => cases Hi with
        | some _ => rfl
        | none => cases hi with
          | some _ => exact hh.elim
          | none => simp at hmh
  refine bnd_ok hh fun r hr => ?_
  refine bnd_ok hl fun l hl' => ?_
  rw [forceN_eq, forceN_eq, forceN_eq]
  have hb3 : ∀ isS, (Instr.sliceBounds isS len c Lo Hi Mx).run P w = .ok (l, r, m) w := by
    intro isS
    refine run_sliceBounds hm' ?_ hl' hno
    cases Hi with
    | some _ => exact hr
    | none => cases mx with
      | none => exact hr
      | some _ => cases Mx with
        | none => exact hm.elim
        | some _ => simp at hno
  have := hrun l r m hb3
  cases hml : Nat.beq m l with
  | true =>
    have hml' := Nat.eq_of_beq_eq_true hml
    rw [if_pos hml'] at this
    exact here hs (.sliceIs b off (r - l) (m - l) L hb) this
  | false =>
    have hml' : m ≠ l := by intro e; subst e; simp at hml
    rw [if_neg hml', addr_add] at this
    exact here hs (.sliceIs b (off + l * size) (r - l) (m - l) L hb) this
theorem xSlice_ok (_hP : TypesOk P) (hs : Sim w0 ρ h w) {t : Nat} {v : AV} {V : Value} {lo hi mx : Option AV} {Lo Hi Mx : Option Value} (hv : Rel ρ v V) (hl : ORel ρ lo Lo) (hh : ORel ρ hi Hi) (hm : ORel ρ mx Mx) :
    ValOk P w0 ρ h w (Instr.sliceAt t V Lo Hi Mx) (xSlice P t v lo hi mx h) := by
  have mxn : mx = none → Mx = none := by
    intro e; subst e
    cases Mx with
    | none => rfl
    | some _ => exact hm.elim
  unfold xSlice
  cases hu : P.underlying t with
  | none => cases hv <;> first | exact trivial | (rename_i hc1 hc2; exact trivial) 
  | some d =>
    cases hv with
    | str len code hc =>
      cases d with
      | string => cases mx with
        | some _ => exact trivial
        | none =>
          have hM := mxn rfl
          subst hM
          dsimp only
          refine bnd_ok hh fun r hr => ?_
          refine bnd_ok hl fun l hl' => ?_
          unfold strV
          rw [forceN_eq, forceN_eq]
          refine cond_ok (fun _ => ?_) (fun _ => trivial)
          have hrl : r ≤ len := hr.le (Nat.le_refl _)
          have hll : l ≤ r := hl'.le (Nat.zero_le _)
          have hb3 := run_sliceBounds (P := P) (w := w) (isS := false) (len := len) (cap := len) (mx := none) (m := len) rfl hr (by first | exact hl' | exact hl'.weaken (Nat.zero_le _)) (by simp)
          refine here hs (.str (r - l) (subStr code l (r - l)) (by rw [subStr_eq]; exact Nat.mod_lt _ (Nat.pow_pos (by decide)))) ?_
          simp only [Instr.sliceAt, Sem.run_bind, run_underlying' hu, Result.andThen_ok, Instr.slice, strOf_size]
          simp [hb3, strOf_extract hll hrl]
      | _ => cases mx <;> exact trivial
    | nilSlice =>
      cases d with
      | slice e => cases mx with
        | some _ => exact trivial
        | none =>
          have hM := mxn rfl
          subst hM
          dsimp only
          refine cond_ok (fun _ => trivial) (fun hp => ?_)
          obtain ⟨i, hi'⟩ := pos_info (P := P) (e := e) (by simpa using hp)
          refine bnd_ok hh fun r hr => ?_
          refine bnd_ok hl fun l hl' => ?_
          have hr0 : r = 0 := Nat.le_zero.1 (hr.le (Nat.le_refl _))
          subst hr0
          have hb3 := run_sliceBounds (P := P) (w := w) (isS := true) (len := 0) (cap := 0) (mx := none) (m := 0) rfl hr (by first | exact hl' | exact hl'.weaken (Nat.zero_le _)) (by simp)
          have hl0 : l = 0 := by have := hl'.le (Nat.zero_le _); omega
          subst hl0
          refine here hs .nilSlice ?_
          simp [Instr.sliceAt, run_underlying' hu, Instr.slice, hb3, run_sizeOf hi']
      | _ => cases mx <;> exact trivial
    | emptyS a c =>
      cases d with
      | slice e => cases mx with
        | some _ => exact trivial
        | none =>
          have hM := mxn rfl
          subst hM
          dsimp only
          refine cond_ok (fun _ => trivial) (fun hp => ?_)
          obtain ⟨i, hi'⟩ := pos_info (P := P) (e := e) (by simpa using hp)
          refine bnd_ok hh fun r hr => ?_
          refine bnd_ok hl fun l hl' => ?_
          have hr0 : r = 0 := Nat.le_zero.1 (hr.le (Nat.le_refl _))
          have hr' := hr.weaken (m' := c) (by omega)
          have hb3 := run_sliceBounds (P := P) (w := w) (isS := true) (len := 0) (cap := c) (mx := none) (m := c) rfl hr' (by first | exact hl' | exact hl'.weaken (Nat.zero_le _)) (by simp)
          have hl0 : l = 0 := by have := hl'.le (Nat.zero_le _); omega
          subst hr0; subst hl0
          refine here hs (.emptyS (if c = 0 then a else a.add (0 * i.size)) c) ?_
          simp only [Instr.sliceAt, Sem.run_bind, run_underlying' hu, Result.andThen_ok, Instr.slice, hb3, run_sizeOf hi', Sem.run_pure]
          by_cases h0 : c = 0 <;> simp [h0]
      | _ => cases mx <;> exact trivial
    | sliceIs b off len c L hb =>
      cases d with
      | slice e =>
        dsimp only
        refine cond_ok (fun hp => ?_) (fun _ => trivial)
        obtain ⟨i, hi'⟩ := pos_info hp
        refine sliceIs_ok hs hb hl hh hm fun l r m hb3 => ?_
        rw [szOf_eq hi']
        simp only [Instr.sliceAt, Sem.run_bind, run_underlying' hu, Result.andThen_ok, Instr.slice, hb3 true, run_sizeOf hi', Sem.run_pure]
        split <;> rfl
      | _ => exact trivial
    | sliceMore b off len c sz L hb h1 h2 =>
      cases d with
      | slice e => cases mx with
        | some _ => exact trivial
        | none =>
          have hM := mxn rfl
          subst hM
          dsimp only
          refine cond_ok (fun hp => ?_) (fun _ => trivial)
          rw [Bool.and_eq_true] at hp
          obtain ⟨i, hi'⟩ := pos_info hp.1
          have hsz := Nat.eq_of_beq_eq_true hp.2
          rw [szOf_eq hi'] at hsz
          unfold sliceMore
          refine bnd_ok hh fun r hr => ?_
          refine bnd_ok hl fun l hl' => ?_
          have hrl : r ≤ len := hr.le (Nat.le_refl _)
          have hll : l ≤ r := hl'.le (Nat.zero_le _)
          have hr' := hr.weaken (m' := c) (by omega)
          have hb3 := run_sliceBounds (P := P) (w := w) (isS := true) (len := len) (cap := c) (mx := none) (m := c) rfl hr' (by first | exact hl' | exact hl'.weaken (Nat.zero_le _)) (by simp)
          have hrun : (Instr.sliceAt t (.slice (some ⟨L.B, L.base + off, none⟩) len c) Lo Hi none).run P w = .ok (.slice (some (if c = l then ⟨L.B, L.base + off, none⟩ else (⟨L.B, L.base + off, none⟩ : Addr).add (l * i.size))) (r - l) (c - l)) w := by
            simp only [Instr.sliceAt, Sem.run_bind, run_underlying' hu, Result.andThen_ok, Instr.slice, hb3, run_sizeOf hi', Sem.run_pure]
            split <;> rfl
          refine cond_ok (fun h0 => ?_) (fun h0 => ?_)
          · have h0 := Nat.eq_of_beq_eq_true h0
            subst h0
            refine here hs (.sliceMore b off r c sz L hb (by omega) h2) ?_
            rw [hrun]
            have : (if c = 0 then (⟨L.B, L.base + off, none⟩ : Addr) else (⟨L.B, L.base + off, none⟩ : Addr).add (0 * i.size)) = ⟨L.B, L.base + off, none⟩ := by
              split
              · rfl
              · rw [addr_add]; simp
            rw [this]; simp
          · refine cond_ok (fun hlt => ?_) (fun hge => ?_)
            · have hlt := blt_lt hlt
              rw [forceN_eq, forceN_eq]
              have hne : c ≠ l := by omega
              refine here hs (.sliceMore b (off + l * sz) (r - l) (c - l) sz L hb (by omega) ?_) ?_
              · rw [← h2]
                have : c * sz = l * sz + (c - l) * sz := by rw [← Nat.add_mul]; congr 1; omega
                omega
              · rw [hrun, if_neg hne, addr_add, hsz]
            · have hge : ¬ l < len := by intro e; rw [← Nat.blt_eq] at e; rw [hge] at e; cases e
              refine here hs (.emptyS (if c = l then ⟨L.B, L.base + off, none⟩ else (⟨L.B, L.base + off, none⟩ : Addr).add (l * i.size)) (c - l)) ?_
              rw [hrun]
              congr 2
              omega
      | _ => cases mx <;> exact trivial
    | ptr b off L hb =>
      cases d with
      | array n e =>
        dsimp only
        refine cond_ok (fun hp => ?_) (fun _ => trivial)
        obtain ⟨i, hi'⟩ := pos_info hp
        refine sliceIs_ok hs hb hl hh hm fun l r m hb3 => ?_
        rw [szOf_eq hi']
        simp only [Instr.sliceAt, Sem.run_bind, run_underlying' hu, Result.andThen_ok, Instr.sureAddr, Sem.run_pure, hb3 false, run_sizeOf hi']
      | _ => exact trivial
    | _ => exact trivial
end
end Go.VM
