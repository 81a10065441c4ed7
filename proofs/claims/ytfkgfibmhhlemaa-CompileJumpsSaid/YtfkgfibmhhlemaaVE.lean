/- The evaluator's machine follows the model's, second part. No conditions: a library text of the proof. -/
import Derived.Test.YtfkgfibmhhlemaaVD
namespace Go.VM
inductive IRel : AItem → Item → Prop where
  | code (c : Code) : IRel (.code c) (.code c)
  | inBlock (id : Nat) : IRel (.inBlock id) (.inBlock id)
  | inLoop (c : Code) : IRel (.inLoop c) (.inLoop c)
  | inScope (c : Code) : IRel (.inScope c) (.inScope c)
  | beginRound : IRel .beginRound .beginRound
inductive KRel : List AItem → List Item → Prop where
  | nil : KRel [] []
  | cons {a : AItem} {b : Item} {k : List AItem} {l : List Item} (h : IRel a b) (hr : KRel k l) : KRel (a :: k) (b :: l)
section
variable (P : Program)
/-- an operation that is not wanted -/
def Off (all : List Oper) (T : Slots) (i : Nat) : Prop := ∃ o, all[i]? = some o ∧ guardA o.guard all (maskT (edgesOf o) all T) = some false ∧ ∀ d, o.dst = some d → T.get d = .undef
structure DSus (ρ : Rho) (R : List (Nat × Key × AObj)) (all : List Oper) (i : Nat) (rest : List PStep) (A C ord : List Nat) (T : Slots) (t : Array Value) : Prop where
  fwd : fwdFrom 0 all = true
  inj : ∀ i j d, dstL all i = some d → dstL all j = some d → i = j
  ok : planOk P all (ancs all []) (i :: A) rest = true
  topo : Topo all (i :: C) ord
  closed : Closed all (i :: C)
  closedA : Closed all (i :: A)
  sub : ∀ j ∈ C, j ∈ A
  quiet : ∀ j ∈ A, j ∉ C → actAt P all j = false
  lt : ∀ j ∈ i :: A, j < all.length
  dlt : ∀ j ∈ A, ∀ d, dstL all j = some d → d < T.n
  new : i ∉ A
  size : t.size = T.n
  slots : ∀ s, (∀ j ∈ A, j ∉ C → dstL all j ≠ some s) → Rel ρ (T.get s) (t.getD s Go.undef)
  pend : ∀ j ∈ A, j ∉ C → j ∈ chkRun rest ∨ Made P R all T j ∨ Off all T j
  closedA0 : Closed all A
end
section
variable {P : Program} {ρ : Rho} {h : Heap} {all : List Oper} {rest : List PStep} {A C ord : List Nat} {T : Slots} {t : Array Value} {R : List (Nat × Key × AObj)}
theorem DInv.suspend {i : Nat} {o : Oper} (hD : DInv P ρ h R all (.op i :: rest) A C (i :: ord) T t) (ho : all[i]? = some o) (hact : acts P o.op = true) : DSus P ρ R all i rest A C ord T t := by
  obtain ⟨o', ho', hiA, hea, hacts, hok', _⟩ := planOk_op hD.ok
  rw [ho] at ho'; cases ho'
  obtain ⟨_, hasked⟩ := hacts hact
  cases hD.topo with
  | cons ho2 hiC he hr =>
    rw [ho] at ho2; cases ho2
    refine ⟨hD.fwd, hD.inj, hok', hr, ?_, ?_, hD.sub, hD.quiet, ?_, hD.dlt, hiA, hD.size, hD.slots, ?_, hD.closedA⟩
    · intro j hj p hp x hx
      cases hj with
      | head => rw [ho] at hp; cases hp; exact List.mem_cons_of_mem _ (he x hx)
      | tail _ hj => exact List.mem_cons_of_mem _ (hD.closed j hj p hp x hx)
    · intro j hj p hp x hx
      cases hj with
      | head => rw [ho] at hp; cases hp; exact List.mem_cons_of_mem _ (hea x hx)
      | tail _ hj => exact List.mem_cons_of_mem _ (hD.closedA j hj p hp x hx)
    · intro j hj
      cases hj with
      | head => exact (List.getElem?_eq_some_iff.1 ho).1
      | tail _ hj => exact hD.lt j hj
    · intro j hj hjC
      rcases asked_iff hasked j hj with h1 | h1 | h1 | h1
      · rw [hD.quiet j hj hjC] at h1; cases h1
      · rcases hD.chk j hj hjC with h2 | h2 | h2
        · simp [chkRun] at h2
        · obtain ⟨p, hp, hcase⟩ := h2
          have hpm : makeOp p.op = true := by simpa [makeAt, hp] using h1
          rcases hcase with ⟨_, x, hx, _⟩ | ⟨a, c⟩
          · exact (make_moves hpm hx).elim
          · exact .inr (.inr ⟨p, hp, a, c⟩)
        · exact .inr (.inl h2)
      · exact absurd (anc_in hD.fwd hD.closed i i (Nat.le_refl _) o ho he j h1) hjC
      · exact .inl h1
theorem DSus.mono {ρ' : Rho} {i : Nat} (s : Sub ρ ρ') (hD : DSus P ρ R all i rest A C ord T t) : DSus P ρ' R all i rest A C ord T t :=
  ⟨hD.fwd, hD.inj, hD.ok, hD.topo, hD.closed, hD.closedA, hD.sub, hD.quiet, hD.lt, hD.dlt, hD.new, hD.size, fun x hx => (hD.slots x hx).mono s, hD.pend, hD.closedA0⟩
theorem DSus.resume {i : Nat} {v : AV} {V : Value} (hD : DSus P ρ R all i rest A C ord T t) (hdl : ∀ x, dstL all i = some x → x < T.n) (hv : Rel ρ v V) : DInv P ρ h R all rest (i :: A) (i :: C) ord (putA T (dstL all i) v) (putT t (dstL all i) V) := by
  refine ⟨hD.fwd, hD.inj, hD.ok, hD.topo, hD.closed, hD.closedA, ?_, ?_, hD.lt, ?_, by rw [putT_size, putA_n]; exact hD.size, ?_, ?_⟩
  · intro j hj
    cases hj with
    | head => simp
    | tail _ hj => exact List.mem_cons_of_mem _ (hD.sub j hj)
  · intro j hj hjC
    cases hj with
    | head => simp at hjC
    | tail _ hj => exact hD.quiet j hj (fun h => hjC (List.mem_cons_of_mem _ h))
  · intro j hj d hd
    rw [putA_n]
    cases hj with
    | head => exact hdl d hd
    | tail _ hj => exact hD.dlt j hj d hd
  · intro s hs
    rw [putA_get, putT_get _ _ _ _ (fun x hx => by rw [hD.size]; exact hdl x hx)]
    split
    · exact hv
    · refine hD.slots s fun j hj hjC => hs j (List.mem_cons_of_mem _ hj) (fun hm => ?_)
      cases hm with
      | head => exact hD.new hj
      | tail _ hm => exact hjC hm
  · intro j hj hjC
    cases hj with
    | head => simp at hjC
    | tail _ hj =>
      obtain ⟨o, ho⟩ : ∃ o, all[i]? = some o := ⟨_, List.getElem?_eq_getElem (hD.lt i (by simp))⟩
      have hdo : dstL all i = o.dst := by simp [dstL, ho]
      have hdd : ∀ d, dstL all j = some d → o.dst ≠ some d := fun d hd e => by
        have := hD.inj i j d (by rw [hdo]; exact e) hd
        subst this; exact hD.new hj
      have hne : ∀ p, all[j]? = some p → i ∉ edgesOf p := fun p hp hm => hD.new (hD.closedA0 j hj p hp i hm)
      rw [hdo]
      rcases hD.pend j hj (fun h => hjC (List.mem_cons_of_mem _ h)) with h1 | h1 | ⟨p, hp, a, c⟩
      · exact .inl h1
      · exact .inr (.inr (h1.put ho hne hdd))
      · exact .inr (.inl (Chk.put ho ⟨p, hp, .inr ⟨a, c⟩⟩ hne hdd))
end
section
variable (P : Program)
/-- a frame that waits for a call of its own -/
inductive SusRel (ρ : Rho) : List (Nat × Key × AObj) → Slots → List AItem → Array Value → List Item → Prop where
  | ops {T : Slots} {t : Array Value} {all : List Oper} {i : Nat} {o : Oper} {rest : List Oper} {k : List AItem} {l : List Item} (hT : TRel ρ T t) (ho : all.drop i = o :: rest) (hk : KRel k l) :
      SusRel ρ [] T (.ops all (o :: rest) :: k) t (.inRegion ⟨all⟩ ((List.range all.length).drop i) :: l)
  | dops {T : Slots} {t : Array Value} {all : List Oper} {i : Nat} {rest : List PStep} {A C ord : List Nat} {k : List AItem} {l : List Item} {R : List (Nat × Key × AObj)} (hD : DSus P ρ R all i rest A C ord T t) (hk : KRel k l) :
      SusRel ρ R T (.dops all (.op i :: rest) :: k) t (.inRegion ⟨all⟩ (i :: ord) :: l)
  | range {T : Slots} {t : Array Value} {lk : Key} {L : Loc} {k : List AItem} {l : List Item} (hT : TRel ρ T t) (hl : ρ lk = some L) (hk : KRel k l) : SusRel ρ [] T (.inRange lk :: k) t (.inRangeFunc L.B :: l)
/-- the frame that runs -/
inductive ActRel (ρ : Rho) (h : Heap) : List (Nat × Key × AObj) → Slots → List AItem → Array Value → List Item → Prop where
  | plain {T : Slots} {t : Array Value} {k : List AItem} {l : List Item} (hT : TRel ρ T t) (hk : KRel k l) : ActRel ρ h [] T k t l
  | ops {T : Slots} {t : Array Value} {all : List Oper} {i : Nat} {rest : List Oper} {k : List AItem} {l : List Item} (hT : TRel ρ T t) (ho : rest = all.drop i) (hk : KRel k l) :
      ActRel ρ h [] T (.ops all rest :: k) t (.inRegion ⟨all⟩ ((List.range all.length).drop i) :: l)
  | dops {T : Slots} {t : Array Value} {all : List Oper} {plan : List PStep} {A C ord : List Nat} {k : List AItem} {l : List Item} {R : List (Nat × Key × AObj)} (hD : DInv P ρ h R all plan A C ord T t) (hk : KRel k l) :
      ActRel ρ h R T (.dops all plan :: k) t (.inRegion ⟨all⟩ ord :: l)
  | endRange {T : Slots} {t : Array Value} {lk : Key} {L : Loc} {k : List AItem} {l : List Item} (hT : TRel ρ T t) (hl : ρ lk = some L) (hk : KRel k l) : ActRel ρ h [] T (.endRange lk :: k) t (.endRangeFunc L.B :: l)
inductive ChRel (ρ : Rho) : List (AV × Bool) → List PanicEntry → Prop where
  | nil : ChRel ρ [] []
  | cons (v : AV) (V : Value) (b : Bool) (r : List (AV × Bool)) (R : List PanicEntry) (hv : Rel ρ v V) (hr : ChRel ρ r R) : ChRel ρ ((v, b) :: r) ({ v := V, recovered := b } :: R)
def kindOf : FK → CallKind
  | .normal => .normal
  | .deferred => .deferred
  | .round _ => .normal
def RoundRel (ρ : Rho) (fk : FK) (r : Option Nat) : Prop := match fk with
  | .round l => ∃ L, ρ l = some L ∧ r = some L.B
  | _ => r = none
def notRound : FK → Prop
  | .round _ => False
  | _ => True
structure FBase (ρ : Rho) (fn : Nat) (ds : List ADef) (fk : FK) (fr : Frame) : Prop where
  name : fr.fn = fn
  fd : ∃ fd, fnOf P fn = some fd
  kind : fr.kind = kindOf fk
  round : RoundRel ρ fk fr.roundOf
  defers : DsRel ρ ds fr.defers
inductive MRel (ρ : Rho) : AMode → FrameMode → Prop where
  | returning : MRel ρ .returning .returning
  | panicking {c : List (AV × Bool)} {C : List PanicEntry} (h : ChRel ρ c C) : MRel ρ (.panicking c) (.panicking C)
inductive FRel (ρ : Rho) : List (Nat × Key × AObj) → AFrame → Frame → Prop where
  | run {fn : Nat} {T : Slots} {k : List AItem} {ds : List ADef} {dfr : FK} {fr : Frame} {R : List (Nat × Key × AObj)} (hb : FBase P ρ fn ds dfr fr) (hm : fr.mode = .run) (hs : SusRel P ρ R T k fr.tmps fr.todo) : FRel ρ R (.mk fn T k ds .run dfr) fr
  | un {fn : Nat} {T : Slots} {ds : List ADef} {m : AMode} {dfr : FK} {fr : Frame} (hb : FBase P ρ fn ds dfr fr) (hn : notRound dfr) (hm : MRel ρ m fr.mode) (hT : TRel ρ T fr.tmps) : FRel ρ [] (.mk fn T [] ds m dfr) fr
inductive CsRel (CS0 : List Frame) (ρ : Rho) : List (Nat × Key × AObj) → List AFrame → List Frame → Prop where
  | nil : CsRel CS0 ρ [] [] CS0
  | cons {a : AFrame} {b : Frame} {k : List AFrame} {l : List Frame} {R S : List (Nat × Key × AObj)} (h : FRel P ρ R a b) (hr : CsRel CS0 ρ S k l) : CsRel CS0 ρ (R ++ S) (a :: k) (b :: l)
def botFn : Nat → FK → List AFrame → Nat × FK
  | fn, d, [] => (fn, d)
  | _, _, .mk fn _ _ _ _ d :: cs => botFn fn d cs
variable (w0 : World) (f0 : Nat) (CS0 : List Frame)
def StRel : St → Machine → Prop
  | .go T k (.mk fn ds dfr cs) h, m => ∃ ρ fr CS w R S, m = lone fr CS w ∧ Sim w0 ρ h w ∧ Resv ρ h (R ++ S) ∧ Glob P ρ ∧ FBase P ρ fn ds dfr fr ∧ fr.mode = .run ∧ ActRel P ρ h R T k fr.tmps fr.todo ∧ CsRel P CS0 ρ S cs CS ∧ botFn fn dfr cs = (f0, .normal)
  | .un am T (.mk fn ds dfr cs) h, m => ∃ ρ fr CS w S, m = lone fr CS w ∧ Sim w0 ρ h w ∧ Resv ρ h S ∧ Glob P ρ ∧ FBase P ρ fn ds dfr fr ∧ notRound dfr ∧ MRel ρ am fr.mode ∧ TRel ρ T fr.tmps ∧ CsRel P CS0 ρ S cs CS ∧ botFn fn dfr cs = (f0, .normal)
  | _, _ => False
def Reach (m : Machine) : St → Prop
  | .bad _ => True
  | .done v h => ∃ ρ fr w V, Steps P m (lone fr CS0 w) ∧ fr.fn = f0 ∧ fr.leaving P w (.returned V) ∧ Rel ρ v V ∧ Sim w0 ρ h w ∧ Glob P ρ
  | .alt l T k (.mk fn ds dfr cs) => ∃ p, p ∈ l ∧ ∃ ρ fr CS w V R S, Steps P m (lone (fr.finish V) CS w) ∧ Sim w0 ρ p.2 w ∧ Resv ρ p.2 (R ++ S) ∧ Glob P ρ ∧ FBase P ρ fn ds dfr fr ∧ fr.mode = .run ∧ SusRel P ρ R T k fr.tmps fr.todo ∧ CsRel P CS0 ρ S cs CS ∧ botFn fn dfr cs = (f0, .normal) ∧ Rel ρ p.1 V
  | s => ∃ m', Steps P m m' ∧ StRel P w0 f0 CS0 s m'
end
section
variable {P : Program} {ρ ρ' : Rho} (s : Sub ρ ρ')
include s
theorem SusRel.mono : ∀ {R : List (Nat × Key × AObj)} {T : Slots} {k : List AItem} {t : Array Value} {l : List Item}, SusRel P ρ R T k t l → SusRel P ρ' R T k t l
  | _, _, _, _, _, .ops hT ho hk => .ops (hT.mono s) ho hk
  | _, _, _, _, _, .dops hD hk => .dops (hD.mono s) hk
  | _, _, _, _, _, .range hT hl hk => .range (hT.mono s) (s _ _ hl) hk
theorem ChRel.mono : ∀ {a : List (AV × Bool)} {A : List PanicEntry}, ChRel ρ a A → ChRel ρ' a A
  | _, _, .nil => .nil
  | _, _, .cons v V b r R hv hr => .cons v V b r R (hv.mono s) (ChRel.mono hr)
theorem MRel.mono {a : AMode} {A : FrameMode} : MRel ρ a A → MRel ρ' a A
  | .returning => .returning
  | .panicking h => .panicking (h.mono s)
theorem RoundRel.mono {fk : FK} {r : Option Nat} (h : RoundRel ρ fk r) : RoundRel ρ' fk r := by
  cases fk with
  | round l => obtain ⟨L, a, b⟩ := h; exact ⟨L, s _ _ a, b⟩
  | _ => exact h
theorem FBase.mono {fn : Nat} {ds : List ADef} {dfr : FK} {fr : Frame} (h : FBase P ρ fn ds dfr fr) : FBase P ρ' fn ds dfr fr := ⟨h.name, h.fd, h.kind, h.round.mono s, h.defers.mono s⟩
theorem FRel.mono : ∀ {R : List (Nat × Key × AObj)} {a : AFrame} {fr : Frame}, FRel P ρ R a fr → FRel P ρ' R a fr
  | _, _, _, .run hb hm hs => .run (hb.mono s) hm (hs.mono s)
  | _, _, _, .un hb hn hm hT => .un (hb.mono s) hn (hm.mono s) (hT.mono s)
theorem CsRel.mono {CS0 : List Frame} : ∀ {R : List (Nat × Key × AObj)} {a : List AFrame} {CS : List Frame}, CsRel P CS0 ρ R a CS → CsRel P CS0 ρ' R a CS
  | _, _, _, .nil => .nil
  | _, _, _, .cons h hr => .cons (h.mono s) (CsRel.mono hr)
end
end Go.VM
namespace Go.VM
section
variable {P : Program} {w0 : World} {f0 : Nat} {CS0 : List Frame}
theorem Reach.of_steps {m m' : Machine} {s : St} (h : Steps P m m') (hr : Reach P w0 f0 CS0 m' s) : Reach P w0 f0 CS0 m s := by
  cases s with
  | bad => exact trivial
  | done v hh => obtain ⟨ρ, fr, w, V, a, b⟩ := hr; exact ⟨ρ, fr, w, V, h.trans a, b⟩
  | alt l T k c => obtain ⟨fn, ds, dfr, cs⟩ := c; obtain ⟨p, hp, ρ, fr, CS, w, V, R, S, a, b⟩ := hr; exact ⟨p, hp, ρ, fr, CS, w, V, R, S, h.trans a, b⟩
  | go T k c hh => obtain ⟨m2, a, b⟩ := hr; exact ⟨m2, h.trans a, b⟩
  | un am T c hh => obtain ⟨m2, a, b⟩ := hr; exact ⟨m2, h.trans a, b⟩
theorem Reach.bad' {m : Machine} {s : String} : Reach P w0 f0 CS0 m (.bad s) := trivial
theorem putK_reach {m : Machine} {T : Slots} {d : Option Nat} {v : AV} {k : Slots → St} (hk : (∀ x, d = some x → x < T.n) → Reach P w0 f0 CS0 m (k (putA T d v))) : Reach P w0 f0 CS0 m (putK T d v k) := by
  rcases putK_cases T d v k with ⟨a, b⟩ | ⟨x, b⟩
  · rw [b]; exact hk a
  · rw [b]; exact trivial
theorem range_drop {n i : Nat} (hi : i < n) : (List.range n).drop i = i :: (List.range n).drop (i + 1) := by
  rw [List.drop_eq_getElem_cons (by simpa using hi)]
  simp
theorem drop_cons {all : List Oper} {i : Nat} {o : Oper} {rest : List Oper} (h : all.drop i = o :: rest) : i < all.length ∧ all[i]? = some o ∧ rest = all.drop (i + 1) := by
  have hlt : i < all.length := by
    rcases Nat.lt_or_ge i all.length with h' | h'
    · exact h'
    · rw [List.drop_eq_nil_of_le h'] at h; cases h
  rw [List.drop_eq_getElem_cons hlt] at h
  injection h with h1 h2
  exact ⟨hlt, by rw [List.getElem?_eq_getElem hlt, h1], h2.symm⟩
/-- a call returns into the frame that waits for it -/
theorem finish_reach {ρ : Rho} {h : Heap} {w : World} {fn : Nat} {T : Slots} {k : List AItem} {ds : List ADef} {dfr : FK} {cs : List AFrame} {fr : Frame} {CS : List Frame} {v : AV} {V : Value} {am : AMode} {R S : List (Nat × Key × AObj)}
    (hs : Sim w0 ρ h w) (hres : Resv ρ h (R ++ S)) (hg : Glob P ρ) (hb : FBase P ρ fn ds dfr fr) (hm : fr.mode = .run) (hsus : SusRel P ρ R T k fr.tmps fr.todo) (hcs : CsRel P CS0 ρ S cs CS) (hbot : botFn fn dfr cs = (f0, .normal)) (hv : Rel ρ v V) :
    Reach P w0 f0 CS0 (lone (fr.finish V) CS w) (finish (.mk fn T k ds am dfr) v cs h) := by
  generalize htm : fr.tmps = t at hsus
  generalize htd : fr.todo = l at hsus
  cases hsus with
  | ops hT ho hk =>
    rename_i all i o rest k l
    obtain ⟨hlt, hoi, hrest⟩ := drop_cons ho
    rw [range_drop hlt] at htd
    dsimp only [finish]
    refine putK_reach fun hd => ⟨_, .refl _ _, ρ, _, CS, w, _, S, rfl, hs, hres, hg, ⟨?_, hb.fd, ?_, ?_, ?_⟩, ?_, ?_, hcs, hbot⟩
    all_goals rw [finish_eq htd]
    · exact hb.name
    · exact hb.kind
    · exact hb.round
    · exact hb.defers
    · exact hm
    · have hdst : ((⟨all⟩ : Array Oper)[i]?).bind (·.dst) = o.dst := by simp [hoi]
      rw [hdst, htm]
      exact .ops (hT.putA hd hv) hrest hk
  | dops hD hk =>
    rename_i all i rest A C ord k l
    dsimp only [finish]
    rw [dstAt_eq]
    refine putK_reach fun hd => ⟨_, .refl _ _, ρ, _, CS, w, _, S, rfl, hs, hres, hg, ⟨?_, hb.fd, ?_, ?_, ?_⟩, ?_, ?_, hcs, hbot⟩
    all_goals rw [finish_eq htd]
    · exact hb.name
    · exact hb.kind
    · exact hb.round
    · exact hb.defers
    · exact hm
    · have hdst : ((⟨all⟩ : Array Oper)[i]?).bind (·.dst) = dstL all i := by simp [dstL]
      rw [hdst, htm]
      exact .dops (hD.resume hd hv) hk
  | range hT hl hk =>
    rename_i lk L k l
    have hfin : fr.finish V = { fr with todo := .endRangeFunc L.B :: l } := by unfold Frame.finish; rw [htd]
    dsimp only [finish]
    rw [hfin]
    exact ⟨_, .refl _ _, ρ, _, CS, w, _, S, rfl, hs, hres, hg, ⟨hb.name, hb.fd, hb.kind, hb.round, hb.defers⟩, hm, by rw [htm]; exact .endRange hT hl hk, hcs, hbot⟩
end
end Go.VM
namespace Go.VM
section
variable (P : Program) [Hook]
def ExtOk : Prop := ∀ f fd, fnOf P f = some fd → fd.body = none → ∀ (w0 : World) (ρ : Rho) (h : Heap) (w : World) (args : List AV) (A : List Value) (v : AV) (h' : Heap), Sim w0 ρ h w → RelL ρ args A → extA P f fd args h = .val v h' →
  ∃ ρ' V w', Sub ρ ρ' ∧ Kept ρ h ρ' h' ∧ Sim w0 ρ' h' w' ∧ Rel ρ' v V ∧ (callFunc f ⟨A⟩).run P w = .ok (.value V) w'
/-- functions that are taken by their contracts -/
def SumOk (w0 : World) : Prop := ∀ (f : Nat) (ρ : Rho) (h : Heap) (w : World) (args : List AV) (A : List Value) (v : AV) (h' : Heap), Sim w0 ρ h w → RelL ρ args A → sumA (sumKind f) args h = some (v, h') →
  (callFunc f ⟨A⟩).run P w = .ok (.enter f ⟨A⟩) w ∧ Calls P f ⟨A⟩ w (fun e w' => ∃ ρ' V, e = .returned V ∧ Sub ρ ρ' ∧ Kept ρ h ρ' h' ∧ Rel ρ' v V ∧ Sim w0 ρ' h' w')
structure Env (w0 : World) : Prop where
  ext : ExtOk P
  sum : SumOk P w0
end
section
variable {P : Program} {w0 : World} {f0 : Nat} {CS0 : List Frame} {ρ : Rho} {h : Heap} {w : World} {R S : List (Nat × Key × AObj)} [Hook]
omit [Hook] in
theorem fnOf_some {f : Nat} {fd : Func} (hf : fnOf P f = some fd) : P.funcs[f]? = some fd ∧ (fd.name == "runtime.NumGoroutine") = false := by
  unfold fnOf at hf
  cases hp : P.funcs[f]? with
  | none => simp [hp] at hf
  | some fn =>
    rw [hp] at hf
    dsimp only at hf
    split at hf
    · cases hf
    · rename_i hne
      have : fn = fd := by simpa using hf
      subst this
      exact ⟨rfl, by simpa using hne⟩
omit [Hook] in
theorem bodyOf_some {f : Nat} {c : Code} (hb : bodyOf P f = some c) : ∃ fd, fnOf P f = some fd ∧ fd.body = some c := by
  unfold bodyOf at hb
  cases hf : fnOf P f with
  | none => simp [hf] at hb
  | some fd => exact ⟨fd, rfl, by simpa [hf] using hb⟩
omit [Hook] in
theorem run_callFunc {f : Nat} {c : Code} {A : List Value} (hb : bodyOf P f = some c) : (callFunc f ⟨A⟩).run P w = .ok (.enter f ⟨A⟩) w := by
  obtain ⟨fd, hf, hbd⟩ := bodyOf_some hb
  obtain ⟨hp, hn⟩ := fnOf_some hf
  have hn' : ¬ fd.name = "runtime.NumGoroutine" := by simpa using hn
  simp [callFunc, run_program, hp, hn', hbd]
omit [Hook] in
theorem enter_reach {f : Nat} {args : List AV} {A : List Value} {dfr : FK} {cs : List AFrame} {CS : List Frame} {c : Code} (hnr : notRound dfr) (hs : Sim w0 ρ h w) (hres : Resv ρ h S) (hg : Glob P ρ) (hcs : CsRel P CS0 ρ S cs CS) (hr : RelL ρ args A) (hb : bodyOf P f = some c)
    (hbot : botFn f dfr cs = (f0, .normal)) : Reach P w0 f0 CS0 (lone (Frame.enter P f ⟨A⟩ (kindOf dfr)) CS w) (enter P f args dfr cs h c) := by
  unfold enter
  cases hle : Nat.ble (len args) (ntmpsOf P f) with
  | false => exact trivial
  | true =>
    have hle := Nat.le_of_ble_eq_true hle
    rw [len_eq] at hle
    obtain ⟨fd, hf, hbd⟩ := bodyOf_some hb
    obtain ⟨hp, hn⟩ := fnOf_some hf
    have hnt : ntmpsOf P f = fd.ntmps := by simp [ntmpsOf, hf]
    refine ⟨_, .refl _ _, ρ, _, CS, w, [], S, rfl, hs, hres, hg, ⟨rfl, ⟨fd, hf⟩, rfl, by cases dfr with | round l => exact hnr.elim | _ => rfl, .nil⟩, rfl, ?_, hcs, hbot⟩
    refine .plain ?_ ?_
    · have := enter_TRel (ρ := ρ) hr (n := ntmpsOf P f) hle
      simp only [Frame.enter, hp, Option.map_some, Option.getD_some]
      rw [hnt] at this ⊢
      simpa using this
    · simp only [Frame.enter, hp, Option.bind_some, hbd, Option.getD_some]
      exact .cons (.code c) .nil
omit [Hook] in
theorem scrubT_get : ∀ (ops : List Oper) (r : RT AV) (n s : Nat), (Slots.mk n (scrubT ops r)).get s = .junk ∨ ((Slots.mk n (scrubT ops r)).get s = (Slots.mk n r).get s ∧ ∀ o ∈ ops, o.dst ≠ some s)
  | [], r, n, s => .inr ⟨rfl, by simp⟩
  | o :: ops, r, n, s => by
    unfold scrubT
    cases hd : o.dst with
    | none =>
      rcases scrubT_get ops r n s with h | ⟨h1, h2⟩
      · exact .inl h
      · exact .inr ⟨h1, fun p hp => by cases hp with | head => rw [hd]; simp | tail _ hp => exact h2 p hp⟩
    | some d =>
      dsimp only
      rcases scrubT_get ops (r.set .junk (keyOf d)) n s with h | ⟨h1, h2⟩
      · exact .inl h
      · by_cases hds : d = s
        · subst hds; left; rw [h1, Slots.get_set_same]
        · right
          refine ⟨by rw [h1, Slots.get_set_other _ _ _ _ _ hds], fun p hp => ?_⟩
          cases hp with
          | head => rw [hd]; simpa using hds
          | tail _ hp => exact h2 p hp
omit [Hook] in
theorem SusRel.scrub {T : Slots} {k : List AItem} {t : Array Value} {l : List Item} (hs : SusRel P ρ R T k t l) : TRel ρ (scrub k T) t := by
  cases hs with
  | ops hT ho hk => exact hT
  | range hT hl hk => exact hT
  | dops hD hk =>
    rename_i all i rest A C ord k l
    obtain ⟨n, r⟩ := T
    refine ⟨hD.size, fun s => ?_⟩
    show Rel ρ ((Slots.mk n (scrubT all r)).get s) _
    rcases scrubT_get all r n s with h | ⟨h1, h2⟩
    · rw [h]; exact .junk _
    · rw [h1]
      refine hD.slots s fun j hj hjC hd => ?_
      unfold dstL at hd
      cases hp : all[j]? with
      | none => simp [hp] at hd
      | some p => rw [hp] at hd; exact h2 p (List.mem_of_getElem? hp) hd
omit [Hook] in
theorem defer_cases {T : Slots} {op : Op} {c : Call} (hop : op = .defer c) : (∃ d h', execA P op T h = .defer d h') ∨ (∃ m, execA P op T h = .bad m) := by
  subst hop
  show (∃ d h', xDefer P c T h = .defer d h') ∨ (∃ m, xDefer P c T h = .bad m)
  unfold xDefer
  split
  · split
    · exact .inl ⟨_, _, rfl⟩
    · exact .inr ⟨_, rfl⟩
  · exact .inr ⟨_, rfl⟩
omit [Hook] in
theorem putAll_ok {ρ : Rho} : ∀ (ps : List Nat) (args : List AV) (A : List Value) (T T' : Slots) (t : Array Value), RelL ρ args A → TRel ρ T t → putAll ps args T = some T' →
    A.length = ps.length ∧ TRel ρ T' ((ps.zip A).foldl (fun tmps x => tmps.setIfInBounds x.1 x.2) t)
  | [], [], A, T, T', t, hr, hT, h => by
    cases hr
    have : T = T' := by simpa [putAll] using h
    subst this
    exact ⟨rfl, hT⟩
  | [], _ :: _, A, T, T', t, hr, hT, h => by simp [putAll] at h
  | _ :: _, [], A, T, T', t, hr, hT, h => by simp [putAll] at h
  | p :: ps, v :: args, A, .mk n r, T', t, hr, hT, h => by
    cases hr with
    | cons _ V _ R hv hr =>
      unfold putAll at h
      cases hb : Nat.blt p n with
      | false => simp [hb] at h
      | true =>
        simp only [hb, cond_true] at h
        obtain ⟨h1, h2⟩ := putAll_ok ps args R _ T' (t.setIfInBounds p V) hr (hT.put (blt_lt hb) hv) h
        exact ⟨by simp [h1], by simpa using h2⟩
omit [Hook] in
theorem loop_obj (hs : Sim w0 ρ h w) {l : Key} {L : Loc} (hl : ρ l = some L) {st : LoopState} {p : Option Code} {f : Nat} {tm : Slots} {ps : List Nat} {a b : Code} {d : Key} (hg : h.get l = some (.loop st p f tm ps a b d)) :
    w0.heap.size ≤ L.B ∧ L.B < w.heap.size ∧ ∃ t Ld, ρ d = some Ld ∧ TRel ρ tm t ∧ w.heap[L.B]? = some (.loop { state := st, pending := p, fn := f, tmps := t, params := ⟨ps⟩, assign := a, body := b, defers := Ld.B }) := by
  obtain ⟨o, ho, hlt, hr⟩ := hs.obj l L hl
  rw [hg] at ho; cases ho
  obtain ⟨hN, t, Ld, h1, h2, h3⟩ := hr
  exact ⟨hN, hlt, t, Ld, h1, h2, h3⟩
theorem upon_reach (hX : Env P w0) {fr : Frame} {CS : List Frame} {fn : Nat} {T : Slots} {it : AItem} {k : List AItem} {ds : List ADef} {dfr : FK} {cs : List AFrame} {ops : Array Oper} {i : Nat} {idx : List Nat} {l : List Item} {o : Oper} {r : Res} {next : AV → Heap → St}
    (hs : Sim w0 ρ h w) (hres : Resv ρ h (R ++ S)) (hg : Glob P ρ) (hb : FBase P ρ fn ds dfr fr) (hm : fr.mode = .run) (ht : fr.todo = .inRegion ops (i :: idx) :: l) (ho : ops[i]? = some o) (hw : Region.wanted o (yielded ops fr.tmps) = true)
    (hsus : SusRel P ρ R T (it :: k) fr.tmps fr.todo) (hcs : CsRel P CS0 ρ S cs CS) (hbot : botFn fn dfr cs = (f0, .normal)) (hn : NextOk P w0 ρ h w (execOp fr.eval o) r) (hx : ∃ Tm, r = execA P o.op Tm h)
    (hval : ∀ ρ' h' w' v V, Sub ρ ρ' → Resv ρ' h' (R ++ S) → Sim w0 ρ' h' w' → Rel ρ' v V → Reach P w0 f0 CS0 (lone (fr.finish V) CS w') (next v h')) :
    Reach P w0 f0 CS0 (lone fr CS w) (upon P r T (it :: k) (.mk fn ds dfr cs) next) := by
  have hnd : (∀ d h', r ≠ .defer d h') → (∀ m, r ≠ .bad m) → fr.roundOf = none ∨ ∀ c, o.op ≠ .defer c := by
    intro h1 h2
    obtain ⟨Tm, hx⟩ := hx
    refine .inr fun c hc => ?_
    rcases defer_cases (P := P) (h := h) (T := Tm) hc with ⟨d, h', e⟩ | ⟨m, e⟩
    · exact h1 d h' (by rw [hx, e])
    · exact h2 m (by rw [hx, e])
  cases r with
  | val v h' =>
    have hnd2 := hnd (by simp) (by simp)
    clear hnd
    obtain ⟨ρ', w', hsub, hkept, hs', hc⟩ := hn
    rcases hc with ⟨V, hv, hrun⟩ | ⟨rfl, hrun⟩
    · exact .of_steps (.one (st_value hm hnd2 ht ho hw hrun)) (hval ρ' h' w' v V hsub (hres.kept hkept) hs' hv)
    · exact .of_steps (.one (st_none hm hnd2 ht ho hw hrun)) (hval ρ' h' w' _ Go.undef hsub (hres.kept hkept) hs' .undef)
  | enter f args h' =>
    have hnd := hnd (by simp) (by simp)
    obtain ⟨rfl, A, hA, hrun⟩ := hn
    show Reach P w0 f0 CS0 _ (enterOr P f args (.mk fn T (it :: k) ds .run dfr) cs h')
    have hsum : ∀ v h2, sumA (sumKind f) args h' = some (v, h2) → Reach P w0 f0 CS0 (lone fr CS w) (finish (.mk fn T (it :: k) ds .run dfr) v cs h2) := by
      intro v h2 he
      obtain ⟨hc, hcalls⟩ := hX.sum f ρ h' w args A v h2 hs hA he
      rw [hc] at hrun
      refine .of_steps (.one (st_enter hm hnd ht ho hw hrun)) ?_
      obtain ⟨e, w', fr', ⟨ρ', V, rfl, hsub, hkept, hv, hs'⟩, hcomes, _, hl⟩ := hcalls (fr :: CS)
      refine .of_steps hcomes ?_
      refine .of_steps (.one (step_leave_returned hl)) ?_
      exact finish_reach hs' (hres.kept hkept) (hg.mono hsub) (hb.mono hsub) hm (hsus.mono hsub) (hcs.mono hsub) hbot hv
    have h0 : Reach P w0 f0 CS0 (lone fr CS w) (enterOr0 P f args (.mk fn T (it :: k) ds .run dfr) cs h') → Reach P w0 f0 CS0 (lone fr CS w) (enterOr P f args (.mk fn T (it :: k) ds .run dfr) cs h') := by
      intro h0
      unfold enterOr
      cases hk : sumKind f with
      | zero => exact h0
      | succ n =>
        show Reach P w0 f0 CS0 _ (enterSum P f args _ cs h' (sumA (n + 1) args h'))
        unfold enterSum
        split
        · rename_i v h2 he; exact hsum v h2 (by rw [hk]; exact he)
        · exact h0
    refine h0 ?_
    unfold enterOr0
    cases hbd : bodyOf P f with
    | some c =>
      rw [run_callFunc hbd] at hrun
      refine .of_steps (.one (st_enter hm hnd ht ho hw hrun)) ?_
      exact enter_reach (dfr := .normal) trivial hs hres hg (.cons (.run hb hm hsus) hcs) hA hbd hbot
    | none =>
      show Reach P w0 f0 CS0 _ (doExtern P f args (.mk fn T (it :: k) ds .run dfr) cs h')
      unfold doExtern
      cases hf : fnOf P f with
      | none => exact trivial
      | some fd =>
        have hfb : fd.body = none := by simpa [bodyOf, hf] using hbd
        dsimp only
        cases he : extA P f fd args h' with
        | val v h2 =>
          obtain ⟨ρ', V, w', hsub, hkept, hs', hv, hrun'⟩ := hX.ext f fd hf hfb w0 ρ h' w args A v h2 hs hA he
          rw [hrun'] at hrun
          refine .of_steps (.one (st_value hm hnd ht ho hw hrun)) ?_
          exact finish_reach hs' (hres.kept hkept) (hg.mono hsub) (hb.mono hsub) hm (hsus.mono hsub) (hcs.mono hsub) hbot hv
        | _ => exact trivial
  | round lk args h' =>
    have hnd := hnd (by simp) (by simp)
    obtain ⟨rfl, L, A, hL, hA, hrun⟩ := hn
    show Reach P w0 f0 CS0 _ (startRound P lk args (.mk fn T (it :: k) ds .run dfr) cs h')
    unfold startRound
    cases hgl : h'.get lk with
    | none => exact trivial
    | some ob =>
      cases ob with
      | loop st p fl tm ps a b d =>
        dsimp only
        cases hpa : putAll ps args tm with
        | none => exact trivial
        | some T' =>
          cases hfl : fnOf P fl with
          | none => exact trivial
          | some fd =>
            dsimp only
            obtain ⟨_, _, t, Ld, hd, hTl, hO⟩ := loop_obj hs hL hgl
            obtain ⟨hlen, hT'⟩ := putAll_ok ps args A tm T' t hA hTl hpa
            have hy : (Instr.yield L.B ⟨A⟩).run P w = .ok (.round L.B fl (((⟨ps⟩ : Array Nat).zip ⟨A⟩).foldl (fun tmps x => tmps.setIfInBounds x.1 x.2) t) a b) w := by
              simp [Instr.yield, Instr.getLoop, run_getObj hO (by simp), hlen]
            rw [hy] at hrun
            refine .of_steps (.one (st_yield hm hnd ht ho hw hrun)) ?_
            refine ⟨_, .refl _ _, ρ, _, fr :: CS, w, [], R ++ S, rfl, hs, hres, hg, ⟨rfl, ⟨fd, hfl⟩, rfl, ⟨L, hL, rfl⟩, .nil⟩, rfl, .plain ?_ (.cons (.code a) (.cons .beginRound (.cons (.code b) .nil))), .cons (.run hb hm hsus) hcs, hbot⟩
            have : ((⟨ps⟩ : Array Nat).zip ⟨A⟩).foldl (fun tmps x => tmps.setIfInBounds x.1 x.2) t = (ps.zip A).foldl (fun tmps x => tmps.setIfInBounds x.1 x.2) t := by
              rw [← Array.foldl_toList]; simp
            show TRel ρ T' (((⟨ps⟩ : Array Nat).zip ⟨A⟩).foldl (fun tmps x => tmps.setIfInBounds x.1 x.2) t)
            rw [this]; exact hT'
      | _ => exact trivial
  | defer d h' =>
    obtain ⟨rfl, D, hD, hrun⟩ := hn
    have hrd := hb.round
    cases dfr with
    | round l => exact trivial
    | normal =>
      refine .of_steps (.one (st_defer hm hrd ht ho hw hrun)) ?_
      exact finish_reach (am := .run) (fr := { fr with defers := D :: fr.defers }) hs hres hg ⟨hb.name, hb.fd, hb.kind, hb.round, .cons _ _ _ _ hD hb.defers⟩ hm hsus hcs hbot .undef
    | deferred =>
      refine .of_steps (.one (st_defer hm hrd ht ho hw hrun)) ?_
      exact finish_reach (am := .run) (fr := { fr with defers := D :: fr.defers }) hs hres hg ⟨hb.name, hb.fd, hb.kind, hb.round, .cons _ _ _ _ hD hb.defers⟩ hm hsus hcs hbot .undef
  | recover h' =>
    obtain ⟨rfl, hrun⟩ := hn
    have hrd := hb.round
    have hk := hb.kind
    cases dfr with
    | round l => exact trivial
    | normal =>
      have hst := st_recover (CS := CS) hm hrd ht ho hw hrun
      have htr : tryRecover fr CS = none := by unfold tryRecover; rw [hk]; rfl
      rw [htr] at hst
      exact .of_steps (.one hst) (finish_reach (am := .run) hs hres hg hb hm hsus hcs hbot .nilIface)
    | deferred =>
      have hst := st_recover (CS := CS) hm hrd ht ho hw hrun
      show Reach P w0 f0 CS0 _ (doRecoverD (.mk fn T (it :: k) ds .run .deferred) cs h')
      unfold doRecoverD
      cases hcs with
      | nil => exact trivial
      | cons hf hr =>
        rename_i a b cs' CS' R1 S1
        have hk' : fr.kind = .deferred := hk
        have nope : tryRecover fr (b :: CS') = none → ∀ m, Reach P w0 f0 CS0 (lone fr (b :: CS') w) (finish (.mk fn T (it :: k) ds m .deferred) .nilIface (a :: cs') h') := by
          intro htr m
          rw [htr] at hst
          exact .of_steps (.one hst) (finish_reach hs hres hg hb hm hsus (.cons hf hr) hbot .nilIface)
        cases hf with
        | run hb2 hm2 hs2 =>
          refine nope ?_ _
          unfold tryRecover; rw [hk']; dsimp only; rw [hm2]
        | un hb2 hn2 hm2 hT2 =>
          generalize hmb : b.mode = mb at hm2
          cases hm2 with
          | returning =>
            refine nope ?_ _
            unfold tryRecover; rw [hk']; dsimp only; rw [hmb]
          | panicking hch =>
            cases hch with
            | nil =>
              refine nope ?_ _
              unfold tryRecover; rw [hk']; dsimp only; rw [hmb]
            | cons v V bb r R hv hr2 =>
              cases bb with
              | true =>
                refine nope ?_ _
                unfold tryRecover; rw [hk']; dsimp only; rw [hmb]
              | false =>
                have htr : tryRecover fr (b :: CS') = some (V, { b with mode := .panicking ({ v := V, recovered := true } :: R) } :: CS') := by
                  unfold tryRecover; rw [hk']; dsimp only; rw [hmb]
                rw [htr] at hst
                refine .of_steps (.one hst) ?_
                exact finish_reach hs hres hg hb hm hsus (.cons (.un ⟨hb2.name, hb2.fd, hb2.kind, hb2.round, hb2.defers⟩ hn2 (.panicking (.cons v V true r R hv hr2)) hT2) hr) hbot hv
  | pan v h' =>
    obtain ⟨rfl, V, hv, hrun⟩ := hn
    have hrd := hb.round
    have hra : fr.raise [{ v := V, recovered := false }] = { fr with mode := .panicking [{ v := V, recovered := false }] } := by unfold Frame.raise; rw [hm]
    have fin : notRound dfr → fr.roundOf = none → Reach P w0 f0 CS0 (lone fr CS w) (.un (.panicking [(v, false)]) (scrub (it :: k) T) (.mk fn ds dfr cs) h') := by
      intro hnr hro
      have hst := st_panic (P := P) (CS := CS) hm hro ht ho hw hrun
      rw [hra] at hst
      exact ⟨_, .one hst, ρ, _, CS, w, S, rfl, hs, hres.right, hg, ⟨hb.name, hb.fd, hb.kind, hb.round, hb.defers⟩, hnr, .panicking (.cons v V false [] [] hv .nil), hsus.scrub, hcs, hbot⟩
    cases dfr with
    | round l => exact trivial
    | normal => exact fin trivial hrd
    | deferred => exact fin trivial hrd
  | alts l =>
    have hnd := hnd (by simp) (by simp)
    obtain ⟨p, hp, ρ', V, w', hsub, hkept, hs', hv, hrun⟩ := hn
    exact ⟨p, hp, ρ', fr, CS, w', V, R, S, .one (st_value hm hnd ht ho hw hrun), hs', hres.kept hkept, hg.mono hsub, hb.mono hsub, hm, hsus.mono hsub, hcs.mono hsub, hbot, hv⟩
  | bad m => exact trivial
end
end Go.VM
namespace Go.VM
section
variable {P : Program} {w0 : World} {f0 : Nat} {CS0 : List Frame} [Hook]
theorem stepOps_reach (hP : TypesOk P) (hX : Env P w0) {all : List Oper} {k : List AItem} {l : List Item} {CS : List Frame} {cs : List AFrame} {fn : Nat} {ds : List ADef} {dfr : FK} {S : List (Nat × Key × AObj)} (hk : KRel k l) (hbot : botFn fn dfr cs = (f0, .normal)) :
    ∀ (rest : List Oper) (i : Nat) (ρ : Rho) (h : Heap) (w : World) (T : Slots) (fr : Frame), rest = all.drop i → Sim w0 ρ h w → Resv ρ h S → Glob P ρ → CsRel P CS0 ρ S cs CS → FBase P ρ fn ds dfr fr → fr.mode = .run → fr.todo = .inRegion ⟨all⟩ ((List.range all.length).drop i) :: l → TRel ρ T fr.tmps →
      Reach P w0 f0 CS0 (lone fr CS w) (stepOps P all k (.mk fn ds dfr cs) rest T h) := by
  intro rest
  induction rest with
  | nil =>
    intro i ρ h w T fr hrest hs hres hg hcs hb hm ht hT
    have hi : all.length ≤ i := by
      rcases Nat.lt_or_ge i all.length with h' | h'
      · rw [List.drop_eq_getElem_cons h'] at hrest; cases hrest
      · exact h'
    have : (List.range all.length).drop i = [] := List.drop_eq_nil_of_le (by simpa using hi)
    rw [this] at ht
    exact ⟨_, .one (st_region_end hm ht), ρ, _, CS, w, [], S, rfl, hs, hres, hg, ⟨hb.name, hb.fd, hb.kind, hb.round, hb.defers⟩, hm, .plain hT hk, hcs, hbot⟩
  | cons o rest ih =>
    intro i ρ h w T fr hrest hs hres hg hcs hb hm ht hT
    obtain ⟨hlt, hoi, hrest'⟩ := drop_cons hrest.symm
    have ht0 := ht
    rw [range_drop hlt] at ht
    have ho' : (⟨all⟩ : Array Oper)[i]? = some o := by simpa using hoi
    have hdst : ((⟨all⟩ : Array Oper)[i]?).bind (·.dst) = o.dst := by simp [hoi]
    have cont : ∀ ρ' h' w' v V, Sub ρ ρ' → Resv ρ' h' ([] ++ S) → Sim w0 ρ' h' w' → Rel ρ' v V → Reach P w0 f0 CS0 (lone (fr.finish V) CS w') (putK T o.dst v (fun T => stepOps P all k (.mk fn ds dfr cs) rest T h')) := by
      intro ρ' h' w' v V hsub hres' hs' hv
      refine putK_reach fun hd => ?_
      rw [finish_eq ht, hdst]
      exact ih (i + 1) ρ' h' w' (putA T o.dst v) _ hrest' hs' hres' (hg.mono hsub) (hcs.mono hsub) (⟨hb.name, hb.fd, hb.kind, hb.round.mono hsub, hb.defers.mono hsub⟩) hm rfl ((hT.mono hsub).putA hd hv)
    show Reach P w0 f0 CS0 _ (oneOp P o (.ops all (o :: rest)) k (.mk fn ds dfr cs) T T h (stepOps P all k (.mk fn ds dfr cs) rest) (guardA o.guard all T))
    unfold oneOp
    cases hgu : guardA o.guard all T with
    | none => exact trivial
    | some b =>
      have hw := guard_ok hT hgu
      cases b with
      | false => exact .of_steps (.one (st_op_skip hm ht ho' hw)) (cont ρ h w .undef Go.undef (Sub.refl _) hres hs .undef)
      | true =>
        exact upon_reach (R := []) hX hs hres hg hb hm ht ho' hw (by rw [ht0]; exact .ops hT hrest.symm hk) hcs hbot (execA_ok hP hs (eval_rel hg hT) o) ⟨T, rfl⟩ cont
theorem stepPlan_reach (hP : TypesOk P) (hX : Env P w0) {all : List Oper} {k : List AItem} {l : List Item} {CS : List Frame} {cs : List AFrame} {fn : Nat} {ds : List ADef} {dfr : FK} {S : List (Nat × Key × AObj)} (hk : KRel k l) (hbot : botFn fn dfr cs = (f0, .normal)) :
    ∀ (plan : List PStep) (A C ord : List Nat) (ρ : Rho) (h : Heap) (w : World) (T : Slots) (fr : Frame) (R : List (Nat × Key × AObj)), Sim w0 ρ h w → Resv ρ h (R ++ S) → Glob P ρ → CsRel P CS0 ρ S cs CS → FBase P ρ fn ds dfr fr → fr.mode = .run → fr.todo = .inRegion ⟨all⟩ ord :: l → DInv P ρ h R all plan A C ord T fr.tmps →
      Reach P w0 f0 CS0 (lone fr CS w) (stepPlan P all k (.mk fn ds dfr cs) plan T h) := by
  intro plan
  induction plan with
  | nil =>
    intro A C ord ρ h w T fr R hs hres hg hcs hb hm ht hD
    have hfr : fr = inReg fr fr.tmps all ord l := by unfold inReg; rw [← ht]
    obtain ⟨ρ', w', t', hsub, hres', hs', hsteps, hT⟩ := catchEnd (CS := CS) (k := l) hP hm ord ρ w fr.tmps C R hg hs hres hD
    rw [← hfr] at hsteps
    exact ⟨_, hsteps, ρ', _, CS, w', [], S, rfl, hs', hres', hg.mono hsub, (⟨hb.name, hb.fd, hb.kind, hb.round.mono hsub, hb.defers.mono hsub⟩), hm, .plain hT hk, hcs.mono hsub, hbot⟩
  | cons st rest ih =>
    intro A C ord ρ h w T fr R hs hres hg hcs hb hm ht hD
    have hfr : fr = inReg fr fr.tmps all ord l := by unfold inReg; rw [← ht]
    cases st with
    | chk j =>
      show Reach P w0 f0 CS0 _ (chkD P j all T h (stepPlan P all k (.mk fn ds dfr cs) rest))
      unfold chkD
      rw [operAt_eq]
      cases hoj : all[j]? with
      | none => exact trivial
      | some o =>
        dsimp only
        cases hc : chkO P o all T h with
        | false => exact trivial
        | true =>
          have hmo : makeOp o.op = false := by have := (planOk_chk hD.ok).1; simpa [makeAt, hoj] using this
          refine ih A C ord ρ h w T fr R hs hres hg hcs hb hm ht (hD.asked fun hA hC => chkO_Chk hoj ?_ hmo hc)
          have := hD.quiet j hA hC
          simpa [actAt, hoj] using this
    | op i =>
      show Reach P w0 f0 CS0 _ (opD P i rest all k (.mk fn ds dfr cs) T h (stepPlan P all k (.mk fn ds dfr cs) rest))
      obtain ⟨o, ho, hiA, hea, _, _, _⟩ := planOk_op hD.ok
      unfold opD
      rw [operAt_eq, ho]
      dsimp only
      unfold opM oneOp
      have hdo : dstL all i = o.dst := by simp [dstL, ho]
      have ho' : (⟨all⟩ : Array Oper)[i]? = some o := by simpa using ho
      have hdst : ((⟨all⟩ : Array Oper)[i]?).bind (·.dst) = dstL all i := by simp [dstL]
      cases hgu : guardA o.guard all (maskT (edgesOf o) all T) with
      | none => exact trivial
      | some b =>
        cases hact : acts P o.op with
        | false =>
          have quiet : ∀ v, ((guardA o.guard all (maskT (edgesOf o) all T) = some true ∧ execA P o.op (maskT (edgesOf o) all T) h = .val v h) ∨ (guardA o.guard all (maskT (edgesOf o) all T) = some false ∧ v = .undef)) →
              Reach P w0 f0 CS0 (lone fr CS w) (putK T o.dst v (fun T => stepPlan P all k (.mk fn ds dfr cs) rest T h)) := fun v hv =>
            putK_reach fun hd => ih (i :: A) C ord ρ h w _ fr R hs hres hg hcs hb hm ht (hD.quietOp ho hact hd hv)
          cases b with
          | false => exact quiet .undef (.inr ⟨hgu, rfl⟩)
          | true =>
            dsimp only
            cases hmo : makeOp o.op with
            | false =>
              rcases execA_keeps (P := P) (h := h) (T := maskT (edgesOf o) all T) o.op hact hmo with ⟨v, hv⟩ | ⟨m, hv⟩
              · rw [hv]; exact quiet v (.inl ⟨hgu, hv⟩)
              · rw [hv]; exact trivial
            | true =>
              rcases makes_or (P := P) hmo (maskT (edgesOf o) all T) with ⟨ob, vf, hmk⟩ | hbad
              · rw [hmk h]
                obtain ⟨tr, nx⟩ := h
                cases hgn : tr.get nx with
                | some x =>
                  have : (Heap.mk tr nx).alloc ob (fun b h => Res.val (vf b) h) = .bad "key" := by
                    show Heap.allocT tr nx ob (fun b h => Res.val (vf b) h) = .bad "key"
                    unfold Heap.allocT; rw [hgn]
                  rw [this]; exact trivial
                | none =>
                  have : (Heap.mk tr nx).alloc ob (fun b h => Res.val (vf b) h) = .val (vf nx) (.mk (tr.set ob nx) (incr nx)) := by
                    show Heap.allocT tr nx ob (fun b h => Res.val (vf b) h) = .val (vf nx) (.mk (tr.set ob nx) (incr nx))
                    unfold Heap.allocT; rw [hgn]
                  rw [this]
                  have hno : ρ nx = none := hs.none_of_get hgn
                  have hoth : ∀ k, k ≠ nx → (Heap.mk (tr.set ob nx) (incr nx)).get k = (Heap.mk tr nx).get k := fun k hk => RT.get_set_other ob nx k tr (Ne.symm hk)
                  show Reach P w0 f0 CS0 (lone fr CS w) (putK T o.dst (vf nx) (fun T => stepPlan P all k (.mk fn ds dfr cs) rest T (.mk (tr.set ob nx) (incr nx))))
                  refine putK_reach fun hd => ih (i :: A) C ord ρ _ w _ fr ((i, nx, ob) :: R) (hs.ext fun b L e => hoth b (fun e2 => by rw [e2, hno] at e; cases e)) ?_ hg hcs hb hm ht (hD.madeHere ho hact hmo hd hgu hmk)
                  exact hres.cons hgn hno (RT.get_set_same ob nx tr) hoth
              · obtain ⟨m, hbad⟩ := hbad h
                rw [hbad]; exact trivial
        | true =>
          obtain ⟨ρ1, w1, t1, C1, ord1, R1, hsub, hres1, hs1, hsteps, hD1⟩ := catchTo (CS := CS) (k := l) (rest := rest) hP hm ho hact ord ρ w fr.tmps C R hg hs hres hD
          rw [← hfr] at hsteps
          refine .of_steps hsteps ?_
          have he : ∀ x ∈ edgesOf o, x ∈ C1 := by
            cases hD1.topo with
            | cons ho2 hi he hr => rw [ho] at ho2; cases ho2; exact he
          have hTm := hD1.masked he
          have hw := guard_ok hTm hgu
          have hsus := hD1.suspend ho hact
          have hb1 : FBase P ρ1 fn ds dfr (inReg fr t1 all (i :: ord1) l) := (⟨hb.name, hb.fd, hb.kind, hb.round.mono hsub, hb.defers.mono hsub⟩)
          have cont : ∀ ρ' h' w' v V, Sub ρ1 ρ' → Resv ρ' h' (R1 ++ S) → Sim w0 ρ' h' w' → Rel ρ' v V → Reach P w0 f0 CS0 (lone ((inReg fr t1 all (i :: ord1) l).finish V) CS w') (putK T o.dst v (fun T => stepPlan P all k (.mk fn ds dfr cs) rest T h')) := by
            intro ρ' h' w' v V hsub' hres' hs' hv
            rw [← hdo]
            refine putK_reach fun hd => ?_
            rw [finish_eq (fr := inReg fr t1 all (i :: ord1) l) rfl, hdst]
            exact ih (i :: A) (i :: C1) ord1 ρ' h' w' _ _ R1 hs' hres' ((hg.mono hsub).mono hsub') ((hcs.mono hsub).mono hsub') ⟨hb.name, hb.fd, hb.kind, (hb.round.mono hsub).mono hsub', (hb.defers.mono hsub).mono hsub'⟩ hm rfl ((hsus.mono hsub').resume hd hv)
          cases b with
          | false => exact .of_steps (.one (st_op_skip (fr := inReg fr t1 all (i :: ord1) l) hm rfl ho' hw)) (cont ρ1 h w1 .undef Go.undef (Sub.refl _) hres1 hs1 .undef)
          | true => exact upon_reach hX hs1 hres1 (hg.mono hsub) hb1 hm rfl ho' hw (.dops hsus hk) (hcs.mono hsub) hbot (execA_ok hP hs1 (eval_rel (hg.mono hsub) hTm) o) ⟨_, rfl⟩ cont
end
end Go.VM
namespace Go.VM
theorem exit_rel {id : Nat} : ∀ {k : List AItem} {l : List Item} {k' : List AItem}, KRel k l → exitToA id k = some k' → ∃ l', exitTo id l = some l' ∧ KRel k' l'
  | _, _, k', .nil, h => by cases h
  | _, _, k', .cons (.code c) hr, h => by unfold exitTo; exact exit_rel (k' := k') hr h
  | _, _, k', .cons (.inLoop c) hr, h => by unfold exitTo; exact exit_rel (k' := k') hr h
  | _, _, k', .cons (.inScope c) hr, h => by unfold exitTo; exact exit_rel (k' := k') hr h
  | _, _, k', .cons .beginRound hr, h => by unfold exitTo; exact exit_rel (k' := k') hr h
  | _, _, k', .cons (k := k) (.inBlock j) hr, h => by
    have h' : cond (Nat.beq j id) (some k) (exitToA id k) = some k' := h
    unfold exitTo
    cases hb : Nat.beq j id with
    | true =>
      rw [hb] at h'
      have e := Nat.eq_of_beq_eq_true hb
      subst e
      have : k = k' := by simpa using h'
      subst this
      exact ⟨_, by simp, hr⟩
    | false =>
      rw [hb] at h'
      have hne : (j == id) = false := by rw [beq_eq_false_iff_ne]; intro e; subst e; simp at hb
      rw [hne]
      exact exit_rel hr h'
theorem goto_rel {lb : Nat} : ∀ {k : List AItem} {l : List Item} {k' : List AItem}, KRel k l → gotoInA lb k = some k' → ∃ l', gotoIn lb l = some l' ∧ KRel k' l'
  | _, _, k', .nil, h => by simp [gotoInA] at h
  | _, _, k', .cons (.code c) hr, h => by unfold gotoIn; unfold gotoInA at h; exact goto_rel (k' := k') hr h
  | _, _, k', .cons (.inLoop c) hr, h => by unfold gotoIn; unfold gotoInA at h; exact goto_rel (k' := k') hr h
  | _, _, k', .cons (.inBlock c) hr, h => by unfold gotoIn; unfold gotoInA at h; exact goto_rel (k' := k') hr h
  | _, _, k', .cons .beginRound hr, h => by unfold gotoIn; unfold gotoInA at h; exact goto_rel (k' := k') hr h
  | _, _, k', .cons (k := k) (.inScope c) hr, h => by
    unfold gotoInA at h
    unfold gotoIn
    cases hf : findLabel c lb with
    | none => rw [hf] at h; exact goto_rel (k' := k') hr h
    | some r =>
      rw [hf] at h
      have : (.code r :: .inScope c :: k) = k' := by simpa using h
      subst this
      exact ⟨_, rfl, .cons (.code r) (.cons (.inScope c) hr)⟩
theorem nodupN_spec : ∀ {l : List Nat}, nodupN l = true → l.Nodup
  | [], _ => List.nodup_nil
  | i :: r, h => by
    unfold nodupN at h
    cases hb : elemN i r with
    | true => rw [hb] at h; cases h
    | false =>
      rw [hb] at h
      exact List.nodup_cons.2 ⟨fun hm => (by rw [elemN_iff.2 hm] at hb; cases hb), nodupN_spec h⟩
theorem mem_dstsOf : ∀ {ops : List Oper} {i d : Nat}, dstL ops i = some d → d ∈ dstsOf ops
  | [], i, d, h => by simp [dstL] at h
  | o :: r, 0, d, h => by
    have : o.dst = some d := by simpa [dstL] using h
    unfold dstsOf; rw [this]; simp
  | o :: r, i + 1, d, h => by
    have h' : dstL r i = some d := by simpa [dstL] using h
    have := mem_dstsOf h'
    unfold dstsOf
    split
    · exact List.mem_cons_of_mem _ this
    · exact this
theorem dst_inj : ∀ {ops : List Oper}, (dstsOf ops).Nodup → ∀ i j d, dstL ops i = some d → dstL ops j = some d → i = j
  | [], _, i, j, d, h, _ => by simp [dstL] at h
  | o :: r, hn, i, j, d, hi, hj => by
    have hn' : (dstsOf r).Nodup := by
      unfold dstsOf at hn
      split at hn
      · exact (List.nodup_cons.1 hn).2
      · exact hn
    have key : o.dst = some d → ∀ m, dstL r m = some d → False := by
      intro hd m hm
      unfold dstsOf at hn
      rw [hd] at hn
      exact (List.nodup_cons.1 hn).1 (mem_dstsOf hm)
    cases i with
    | zero =>
      have hd : o.dst = some d := by simpa [dstL] using hi
      cases j with
      | zero => rfl
      | succ j => exact (key hd j (by simpa [dstL] using hj)).elim
    | succ i =>
      cases j with
      | zero => exact (key (by simpa [dstL] using hj) i (by simpa [dstL] using hi)).elim
      | succ j =>
        have := dst_inj hn' i j d (by simpa [dstL] using hi) (by simpa [dstL] using hj)
        omega
section
variable {P : Program} {w0 : World} {f0 : Nat} {CS0 : List Frame} [Hook]
omit [Hook] in
theorem planOf_some {all : List Oper} {p : List PStep} (h : planOf P all = some p) : planOk P all (ancs all []) [] p = true ∧ fwdFrom 0 all = true ∧ (dstsOf all).Nodup := by
  unfold planOf at h
  cases hg : planGo P all (ancs all []) (all.length + 1) [] (upTo all.length).reverse with
  | none => simp [hg] at h
  | some q =>
    rw [hg] at h
    dsimp only at h
    cases hc : (planOk P all (ancs all []) [] q && fwdFrom 0 all && nodupN (dstsOf all)) with
    | false => rw [hc] at h; cases h
    | true =>
      rw [hc] at h
      have : q = p := by simpa using h
      subst this
      simp only [Bool.and_eq_true] at hc
      exact ⟨hc.1.1, hc.1.2, nodupN_spec hc.2⟩
omit [Hook] in
theorem range_reach {ρ : Rho} {h : Heap} {w : World} {T : Slots} {fr : Frame} {CS : List Frame} {cs : List AFrame} {fn : Nat} {ds : List ADef} {dfr : FK} {f : Operand} {ps : Array Nat} {a b : Code} {k : List AItem} {l : List Item} {S : List (Nat × Key × AObj)} (_hnr : notRound dfr) (hbot : botFn fn dfr cs = (f0, .normal))
    (hs : Sim w0 ρ h w) (hres : Resv ρ h S) (hg : Glob P ρ) (hcs : CsRel P CS0 ρ S cs CS) (hb : FBase P ρ fn ds dfr fr) (hrd : fr.roundOf = none) (hm : fr.mode = .run) (ht : fr.todo = .code (.rangeFunc f ps a b) :: l) (hk : KRel k l) (hT : TRel ρ T fr.tmps) :
    Reach P w0 f0 CS0 (lone fr CS w) (rangeIn P f ps.toList a b T k fn ds dfr cs h) := by
  obtain ⟨t, nx⟩ := h
  unfold rangeIn
  dsimp only
  cases h1 : t.get nx with
  | some _ => exact trivial
  | none =>
    cases h2 : (t.set (.deferred []) nx).get (incr nx) with
    | some _ => exact trivial
    | none =>
      dsimp only
      have s1 : Sim w0 (ρ.add nx ⟨w.heap.size, 0, 0⟩) ((Heap.mk t nx).put nx (.deferred [])) (w.alloc (.deferred (some []))) := hs.alloc (L := ⟨w.heap.size, 0, 0⟩) h1 rfl ⟨hs.size, [], .nil, rfl⟩
      have hn1 := hs.none_of_get (b := nx) h1
      have k1 : Kept ρ (Heap.mk t nx) (ρ.add nx ⟨w.heap.size, 0, 0⟩) ((Heap.mk t nx).put nx (.deferred [])) := kept_add h1
      have sub1 : Sub ρ (ρ.add nx ⟨w.heap.size, 0, 0⟩) := Rho.sub_add hn1
      have hn2 := s1.none_of_get (b := incr nx) h2
      have sub2 : Sub (ρ.add nx ⟨w.heap.size, 0, 0⟩) ((ρ.add nx ⟨w.heap.size, 0, 0⟩).add (incr nx) ⟨w.heap.size + 1, 0, 0⟩) := Rho.sub_add hn2
      have s2 : Sim w0 ((ρ.add nx ⟨w.heap.size, 0, 0⟩).add (incr nx) ⟨w.heap.size + 1, 0, 0⟩) (((Heap.mk t nx).put nx (.deferred [])).put (incr nx) (.loop .ready none fn T ps.toList a b nx)) ((w.alloc (.deferred (some []))).alloc (.loop { state := .ready, pending := none, fn := fn, tmps := fr.tmps, params := ps, assign := a, body := b, defers := w.heap.size })) := by
        refine s1.alloc (L := ⟨w.heap.size + 1, 0, 0⟩) h2 (by simp) ⟨by have := hs.size; show _ ≤ w.heap.size + 1; omega, fr.tmps, ⟨w.heap.size, 0, 0⟩, sub2 _ _ (Rho.add_same _ _ _), (hT.mono sub1).mono sub2, by simp⟩
      have hres2 : Resv ((ρ.add nx ⟨w.heap.size, 0, 0⟩).add (incr nx) ⟨w.heap.size + 1, 0, 0⟩) (((Heap.mk t nx).put nx (.deferred [])).put (incr nx) (.loop .ready none fn T ps.toList a b nx)) S := (hres.kept k1).kept (kept_add h2)
      generalize hρ2 : (ρ.add nx ⟨w.heap.size, 0, 0⟩).add (incr nx) ⟨w.heap.size + 1, 0, 0⟩ = ρ2 at *
      have hlk : ρ2 (incr nx) = some ⟨w.heap.size + 1, 0, 0⟩ := by rw [← hρ2]; exact Rho.add_same _ _ _
      have hdk : ρ2 nx = some ⟨w.heap.size, 0, 0⟩ := sub2 _ _ (Rho.add_same _ _ _)
      have sub : Sub ρ ρ2 := sub1.trans sub2
      have hrun : (Instr.enterLoop fr.fn fr.tmps ps a b none).run P w = .ok (w.heap.size + 1, [{ target := .collected w.heap.size, args := #[] }]) ((w.alloc (.deferred (some []))).alloc (.loop { state := .ready, pending := none, fn := fn, tmps := fr.tmps, params := ps, assign := a, body := b, defers := w.heap.size })) := by
        rw [hb.name]
        simp [Instr.enterLoop]
      generalize hw2 : (w.alloc (.deferred (some []))).alloc (.loop { state := .ready, pending := none, fn := fn, tmps := fr.tmps, params := ps, assign := a, body := b, defers := w.heap.size }) = w2 at *
      unfold rangeCall
      have hf := eval_rel (fr := fr) hg hT f
      generalize ev P T f = fa at hf
      generalize hFe : fr.eval f = F at hf
      cases hf with
      | func g first cap A1 B1 hfi hca =>
        dsimp only
        cases hbd : bodyOf P g with
        | none => exact trivial
        | some c =>
          dsimp only
          have hcall : (do let d ← Deferred.ofValue (fr.eval f) #[.func (.yield (w.heap.size + 1)) #[] #[]]; invoke d.target d.args : Sem Next).run P w2 = .ok (.enter g ⟨A1 ++ ([.func (.yield (w.heap.size + 1)) #[] #[]] ++ B1)⟩) w2 := by
            rw [hFe]
            have := run_callFunc (P := P) (w := w2) (A := A1 ++ ([.func (.yield (w.heap.size + 1)) #[] #[]] ++ B1)) hbd
            simpa [Deferred.ofValue, invoke] using this
          refine .of_steps (.one (st_range hm hrd ht hrun hcall)) ?_
          have hres2' : Resv ρ2 (.mk ((t.set (.deferred []) nx).set (.loop .ready none fn T ps.toList a b nx) (incr nx)) (incr (incr nx))) ([] ++ S) := ⟨hres2.nodup, hres2.none_, hres2.obj⟩
          refine enter_reach (dfr := .normal) trivial ⟨s2.os, s2.out, s2.size, s2.old, s2.obj, s2.inj⟩ (S := [] ++ S) hres2' (hg.mono sub) (.cons (.run ⟨hb.name, hb.fd, hb.kind, hb.round.mono sub, .cons _ _ _ _ (.mark nx _ hdk) (hb.defers.mono sub)⟩ hm (.range (L := ⟨w.heap.size + 1, 0, 0⟩) (hT.mono sub) hlk hk)) (hcs.mono sub)) ?_ hbd hbot
          rw [cat_eq, cat_eq]
          exact (hfi.mono sub).append (.cons _ _ _ _ (.yield (incr nx) ⟨w.heap.size + 1, 0, 0⟩ hlk) (hca.mono sub))
      | _ => exact trivial
theorem stepCode_reach (hP : TypesOk P) (hX : Env P w0) (hF : P.follows .mixedOrders = true) {CS : List Frame} {cs : List AFrame} {fn : Nat} {ds : List ADef} {dfr : FK} {S : List (Nat × Key × AObj)} (hbot : botFn fn dfr cs = (f0, .normal)) :
    ∀ (c : Code) (k : List AItem) (l : List Item) (ρ : Rho) (h : Heap) (w : World) (T : Slots) (fr : Frame), Sim w0 ρ h w → Resv ρ h S → Glob P ρ → CsRel P CS0 ρ S cs CS → FBase P ρ fn ds dfr fr → fr.mode = .run → fr.todo = .code c :: l → KRel k l → TRel ρ T fr.tmps →
      Reach P w0 f0 CS0 (lone fr CS w) (stepCode P c T k (.mk fn ds dfr cs) h) := by
  intro c
  induction c with
  | skip =>
    intro k l ρ h w T fr hs hres hg hcs hb hm ht hk hT
    exact ⟨_, .one (st_skip hm ht), ρ, _, CS, w, [], S, rfl, hs, hres, hg, ⟨hb.name, hb.fd, hb.kind, hb.round, hb.defers⟩, hm, .plain hT hk, hcs, hbot⟩
  | region id ops draw =>
    intro k l ρ h w T fr hs hres hg hcs hb hm ht hk hT
    show Reach P w0 f0 CS0 _ (sRegion P id ops draw T k (.mk fn ds dfr cs) h)
    unfold sRegion
    cases draw with
    | false =>
      refine .of_steps (.one (st_region hm ht)) ?_
      refine stepOps_reach hP hX hk hbot ops.toList 0 ρ h w T _ (by simp) hs hres hg hcs ⟨hb.name, hb.fd, hb.kind, hb.round, hb.defers⟩ hm ?_ hT
      simp
    | true =>
      dsimp only
      unfold goPlan
      cases hp : planOf P ops.toList with
      | none => exact trivial
      | some p =>
        obtain ⟨h1, h2, h3⟩ := planOf_some hp
        obtain ⟨t, hst⟩ := st_draw (P := P) (CS := CS) (w := w) hm ht
        rw [hF] at hst
        refine .of_steps (.one hst) ?_
        refine stepPlan_reach hP hX hk hbot p [] [] (Region.schedule true ops t) ρ h w.drew T _ [] hs.drew hres hg hcs ⟨hb.name, hb.fd, hb.kind, hb.round, hb.defers⟩ hm (by simp) ?_
        exact ⟨h2, dst_inj h3, h1, schedule_topo h2 t, fun i hi => (by cases hi), fun i hi => (by cases hi), fun i hi => (by cases hi), fun i hi => (by cases hi), fun i hi => (by cases hi), fun i hi => (by cases hi), hT.n, fun s _ => hT.at_ s, fun i hi => (by cases hi)⟩
  | seq a b iha ihb =>
    intro k l ρ h w T fr hs hres hg hcs hb hm ht hk hT
    refine .of_steps (.one (st_seq hm ht)) ?_
    exact iha (.code b :: k) (.code b :: l) ρ h w T _ hs hres hg hcs ⟨hb.name, hb.fd, hb.kind, hb.round, hb.defers⟩ hm rfl (.cons (.code b) hk) hT
  | cond x a b iha ihb =>
    intro k l ρ h w T fr hs hres hg hcs hb hm ht hk hT
    show Reach P w0 f0 CS0 _ (sCond' P x a b (stepCode P a) (stepCode P b) T k (.mk fn ds dfr cs) h)
    unfold sCond'
    have hx := eval_rel (fr := fr) hg hT x
    generalize ev P T x = xa at hx
    generalize hX' : fr.eval x = XV at hx
    cases hx with
    | bool t =>
      refine .of_steps (.one (st_cond hm ht hX')) ?_
      cases t with
      | true => exact iha k l ρ h w T _ hs hres hg hcs ⟨hb.name, hb.fd, hb.kind, hb.round, hb.defers⟩ hm (by simp) hk hT
      | false => exact ihb k l ρ h w T _ hs hres hg hcs ⟨hb.name, hb.fd, hb.kind, hb.round, hb.defers⟩ hm (by simp) hk hT
    | _ => exact trivial
  | block id a iha =>
    intro k l ρ h w T fr hs hres hg hcs hb hm ht hk hT
    refine .of_steps (.one (st_block hm ht)) ?_
    exact iha (.inBlock id :: k) (.inBlock id :: l) ρ h w T _ hs hres hg hcs ⟨hb.name, hb.fd, hb.kind, hb.round, hb.defers⟩ hm rfl (.cons (.inBlock id) hk) hT
  | loop a iha =>
    intro k l ρ h w T fr hs hres hg hcs hb hm ht hk hT
    exact ⟨_, .one (st_loop hm ht), ρ, _, CS, w, [], S, rfl, hs, hres, hg, ⟨hb.name, hb.fd, hb.kind, hb.round, hb.defers⟩, hm, .plain hT (.cons (.code a) (.cons (.inLoop a) hk)), hcs, hbot⟩
  | rangeFunc f ps a b iha ihb =>
    intro k l ρ h w T fr hs hres hg hcs hb hm ht hk hT
    have hrd := hb.round
    cases dfr with
    | round l => exact trivial
    | normal => exact range_reach trivial hbot hs hres hg hcs hb hrd hm ht hk hT
    | deferred => exact range_reach trivial hbot hs hres hg hcs hb hrd hm ht hk hT
  | exit id =>
    intro k l ρ h w T fr hs hres hg hcs hb hm ht hk hT
    show Reach P w0 f0 CS0 _ (jumpTo (exitToA id k) T (.mk fn ds dfr cs) h)
    unfold jumpTo
    cases he : exitToA id k with
    | none => exact trivial
    | some k' =>
      obtain ⟨l', hl', hk'⟩ := exit_rel hk he
      exact ⟨_, .one (st_exit hm ht hl'), ρ, _, CS, w, [], S, rfl, hs, hres, hg, ⟨hb.name, hb.fd, hb.kind, hb.round, hb.defers⟩, hm, .plain hT hk', hcs, hbot⟩
  | scope a iha =>
    intro k l ρ h w T fr hs hres hg hcs hb hm ht hk hT
    exact ⟨_, .one (st_scope hm ht), ρ, _, CS, w, [], S, rfl, hs, hres, hg, ⟨hb.name, hb.fd, hb.kind, hb.round, hb.defers⟩, hm, .plain hT (.cons (.code a) (.cons (.inScope a) hk)), hcs, hbot⟩
  | label lb =>
    intro k l ρ h w T fr hs hres hg hcs hb hm ht hk hT
    exact ⟨_, .one (st_label hm ht), ρ, _, CS, w, [], S, rfl, hs, hres, hg, ⟨hb.name, hb.fd, hb.kind, hb.round, hb.defers⟩, hm, .plain hT hk, hcs, hbot⟩
  | goto lb =>
    intro k l ρ h w T fr hs hres hg hcs hb hm ht hk hT
    show Reach P w0 f0 CS0 _ (jumpTo (gotoInA lb k) T (.mk fn ds dfr cs) h)
    unfold jumpTo
    cases he : gotoInA lb k with
    | none => exact trivial
    | some k' =>
      obtain ⟨l', hl', hk'⟩ := goto_rel hk he
      exact ⟨_, .one (st_goto hm ht hl'), ρ, _, CS, w, [], S, rfl, hs, hres, hg, ⟨hb.name, hb.fd, hb.kind, hb.round, hb.defers⟩, hm, .plain hT hk', hcs, hbot⟩
  | ret =>
    intro k l ρ h w T fr hs hres hg hcs hb hm ht hk hT
    have hrd := hb.round
    cases dfr with
    | round l => exact trivial
    | normal => exact ⟨_, .one (st_ret hm hrd ht), ρ, _, CS, w, S, rfl, hs, hres, hg, ⟨hb.name, hb.fd, hb.kind, hb.round, hb.defers⟩, trivial, .returning, hT, hcs, hbot⟩
    | deferred => exact ⟨_, .one (st_ret hm hrd ht), ρ, _, CS, w, S, rfl, hs, hres, hg, ⟨hb.name, hb.fd, hb.kind, hb.round, hb.defers⟩, trivial, .returning, hT, hcs, hbot⟩
  | refuse why =>
    intro k l ρ h w T fr hs hres hg hcs hb hm ht hk hT
    exact trivial
end
end Go.VM
