/- The evaluator's machine follows the model's: the theorem, the start, the contracts. No conditions: a library text of the proof. -/
import Derived.Test.YtfkgfibmhhlemaaVE
import Derived.Lib.MakeNoZero
import Derived.Lib.Bytealg
import Derived.Lib.IndexMore
namespace Go.VM
section
variable {P : Program} {w0 : World} {f0 : Nat} {CS0 : List Frame} [Hook]
theorem stepGo_reach (hP : TypesOk P) (hX : Env P w0) (hF : P.follows .mixedOrders = true) {T : Slots} {k : List AItem} {c : Ctx} {h : Heap} {m : Machine} (hst : StRel P w0 f0 CS0 (.go T k c h) m) : Reach P w0 f0 CS0 m (stepGo P T k c h) := by
  obtain ⟨fn, ds, dfr, cs⟩ := c
  obtain ⟨ρ, fr, CS, w, R, S, rfl, hs, hres, hg, hb, hm, hact, hcs, hbot⟩ := hst
  generalize htm : fr.tmps = t at hact
  generalize htd : fr.todo = l at hact
  cases hact with
  | plain hT hk =>
    subst htm
    cases hk with
    | nil =>
      show Reach P w0 f0 CS0 _ (leave T (.mk fn ds dfr cs) h)
      unfold leave
      have hrd := hb.round
      have hkd := hb.kind
      cases dfr with
      | normal => exact ⟨_, .one (st_nil hm hrd htd), ρ, _, CS, w, S, rfl, hs, hres, hg, ⟨hb.name, hb.fd, hb.kind, hb.round, hb.defers⟩, trivial, .returning, hT, hcs, hbot⟩
      | deferred => exact ⟨_, .one (st_nil hm hrd htd), ρ, _, CS, w, S, rfl, hs, hres, hg, ⟨hb.name, hb.fd, hb.kind, hb.round, hb.defers⟩, trivial, .returning, hT, hcs, hbot⟩
      | round lk =>
        obtain ⟨L, hL, hro⟩ := hrd
        dsimp only
        cases hgl : h.get lk with
        | none => exact trivial
        | some ob =>
          cases ob with
          | loop st p fl tm ps a b d =>
            cases hcs with
            | nil => exact trivial
            | cons hf hr =>
              rename_i fa fb cs' CS' R1 S1
              dsimp only
              obtain ⟨hN, hlt, t, Ld, hd, hTl, hO⟩ := loop_obj hs hL hgl
              have hrun : (Instr.endRound L.B none).run P w = .ok (.bool true) (setBlock w L.B (.loop { state := .ready, pending := none, fn := fl, tmps := t, params := ⟨ps⟩, assign := a, body := b, defers := Ld.B })) := by
                simp [Instr.endRound, Instr.getLoop, run_getObj hO (by simp), run_setObj hO (by simp)]
              have hs' : Sim w0 ρ (h.put lk (.loop .ready none fl tm ps a b d)) (setBlock w L.B (.loop { state := .ready, pending := none, fn := fl, tmps := t, params := ⟨ps⟩, assign := a, body := b, defers := Ld.B })) :=
                hs.put hL hgl rfl hN rfl rfl (by simp [setBlock]) (fun k hk => setBlock_other hk) (setBlock_at hlt) ⟨hN, t, Ld, hd, hTl, rfl⟩
              refine .of_steps (.one (st_endRound hm hro hkd htd hrun)) ?_
              cases hf with
              | run hb2 hm2 hs2 => exact finish_reach (am := .run) hs' (Resv.kept (R := R1 ++ S1) hres (kept_put hL)) hg hb2 hm2 hs2 hr hbot (.bool true)
              | un hb2 hn2 hm2 hT2 => exact trivial
          | _ => exact trivial
    | cons hi hk =>
      rename_i a b k l
      cases hi with
      | code c => exact stepCode_reach hP hX hF hbot c k l ρ h w T fr hs hres hg hcs hb hm htd hk hT
      | inBlock id => exact ⟨_, .one (st_inBlock hm htd), ρ, _, CS, w, [], S, rfl, hs, hres, hg, ⟨hb.name, hb.fd, hb.kind, hb.round, hb.defers⟩, hm, .plain hT hk, hcs, hbot⟩
      | inLoop c => exact ⟨_, .one (st_inLoop hm htd), ρ, _, CS, w, [], S, rfl, hs, hres, hg, ⟨hb.name, hb.fd, hb.kind, hb.round, hb.defers⟩, hm, .plain hT (.cons (.code c) (.cons (.inLoop c) hk)), hcs, hbot⟩
      | inScope c => exact ⟨_, .one (st_inScope hm htd), ρ, _, CS, w, [], S, rfl, hs, hres, hg, ⟨hb.name, hb.fd, hb.kind, hb.round, hb.defers⟩, hm, .plain hT hk, hcs, hbot⟩
      | beginRound =>
        show Reach P w0 f0 CS0 _ (beginR T k (.mk fn ds dfr cs) h)
        unfold beginR
        have hrd := hb.round
        cases dfr with
        | normal => exact trivial
        | deferred => exact trivial
        | round lk =>
          obtain ⟨L, hL, hro⟩ := hrd
          dsimp only
          split
          · rename_i p fl tm ps a b d hgl
            obtain ⟨hN, hlt, t, Ld, hd, hTl, hO⟩ := loop_obj hs hL hgl
            have hrun : (Instr.beginRound L.B).run P w = .ok () (setBlock w L.B (.loop { state := .busy, pending := p, fn := fl, tmps := t, params := ⟨ps⟩, assign := a, body := b, defers := Ld.B })) := by
              simp [Instr.beginRound, Instr.getLoop, run_getObj hO (by simp), run_setObj hO (by simp)]
            have hs' : Sim w0 ρ (h.put lk (.loop .busy p fl tm ps a b d)) (setBlock w L.B (.loop { state := .busy, pending := p, fn := fl, tmps := t, params := ⟨ps⟩, assign := a, body := b, defers := Ld.B })) :=
              hs.put hL hgl rfl hN rfl rfl (by simp [setBlock]) (fun k hk => setBlock_other hk) (setBlock_at hlt) ⟨hN, t, Ld, hd, hTl, rfl⟩
            exact ⟨_, .one (st_begin hm hro htd hrun), ρ, _, CS, _, [], S, rfl, hs', Resv.kept (R := [] ++ S) hres (kept_put hL), hg, ⟨hb.name, hb.fd, hb.kind, hb.round, hb.defers⟩, hm, .plain hT hk, hcs, hbot⟩
          · exact trivial
  | ops hT ho hk =>
    subst htm
    exact stepOps_reach hP hX hk hbot _ _ ρ h w T fr ho hs hres hg hcs hb hm htd hT
  | endRange hT hl hk =>
    subst htm
    rename_i lk L k l
    show Reach P w0 f0 CS0 _ (endR lk T k (.mk fn ds dfr cs) h)
    unfold endR
    split
    · rename_i fl tm ps a b d hgl
      obtain ⟨hN, hlt, t, Ld, hd, hTl, hO⟩ := loop_obj hs hl hgl
      have hrun : (Instr.endLoop L.B).run P w = .ok none (setBlock w L.B (.loop { state := .exhausted, pending := none, fn := fl, tmps := t, params := ⟨ps⟩, assign := a, body := b, defers := Ld.B })) := by
        simp [Instr.endLoop, Instr.getLoop, run_getObj hO (by simp), run_setObj hO (by simp)]
      have hs' : Sim w0 ρ (h.put lk (.loop .exhausted none fl tm ps a b d)) (setBlock w L.B (.loop { state := .exhausted, pending := none, fn := fl, tmps := t, params := ⟨ps⟩, assign := a, body := b, defers := Ld.B })) :=
        hs.put hl hgl rfl hN rfl rfl (by simp [setBlock]) (fun k hk => setBlock_other hk) (setBlock_at hlt) ⟨hN, t, Ld, hd, hTl, rfl⟩
      exact ⟨_, .one (st_endRange hm htd hrun), ρ, _, CS, _, [], S, rfl, hs', Resv.kept (R := [] ++ S) hres (kept_put hl), hg, ⟨hb.name, hb.fd, hb.kind, hb.round, hb.defers⟩, hm, .plain hT hk, hcs, hbot⟩
    · exact trivial
  | dops hD hk =>
    subst htm
    exact stepPlan_reach hP hX hk hbot _ _ _ _ ρ h w T fr R hs hres hg hcs hb hm htd hD
omit [Hook] in
theorem stepG_un {fr : Frame} {CS : List Frame} {w : World} (hm : fr.mode ≠ .run) : stepG P true { frame := fr, callers := CS, status := .running, dying := none } w = unwind P true fr CS none w := by
  unfold stepG
  cases hmm : fr.mode with
  | run => exact absurd hmm hm
  | returning => simp [hmm]
  | panicking c => simp [hmm]
omit [Hook] in
theorem MRel.ne_run {ρ : Rho} {a : AMode} {b : FrameMode} (h : MRel ρ a b) : b ≠ .run := by cases h <;> simp
def resF (t : Array Value) : ResultVar → Sem Value
  | .tmp a => pure (t.getD a Go.undef)
  | .cell a ty => do loadVar ty (← asAddr (t.getD a Go.undef))
omit [Hook] in
theorem results_eq (fd : Func) (t : Array Value) : results fd t = (do let vs ← fd.results.mapM (resF t); pure (if h : vs.size = 1 then vs[0] else .tuple vs)) := by
  unfold results
  congr 1
omit [Hook] in
theorem results_ok {ρ : Rho} {h : Heap} {w : World} {T : Slots} {t : Array Value} (hs : Sim w0 ρ h w) (hT : TRel ρ T t) : ∀ (rs : List ResultVar) (vs : List AV), resultsA P h T rs = some vs →
    ∃ Vs, RelL ρ vs Vs ∧ (rs.mapM (resF t) : Sem (List Value)).run P w = .ok Vs w
  | [], vs, e => by
    simp [resultsA] at e; subst e
    exact ⟨[], .nil, by simp⟩
  | .tmp a :: rs, vs, e => by
    unfold resultsA at e
    cases hr : resultsA P h T rs with
    | none => simp [hr] at e
    | some us =>
      simp [hr] at e
      subst e
      obtain ⟨Us, hU, hrun⟩ := results_ok hs hT rs us hr
      refine ⟨_, .cons _ _ _ _ (hT.at_ a) hU, ?_⟩
      simp only [List.mapM_cons, Sem.run_bind, resF, Sem.run_pure, Result.andThen_ok, hrun]
  | .cell a ty :: rs, vs, e => by
    unfold resultsA at e
    have hrel := hT.at_ a
    generalize T.get a = va at e hrel
    generalize hVa : t.getD a Go.undef = Va at hrel
    cases hrel with
    | ptr b off L hb =>
      dsimp only at e
      cases hv : (cond (isAggT P ty) ((cellsAt h b off (szOf P ty)).map .agg) (cond (known P ty) (cellAt h b off) none)) with
      | none => simp [hv] at e
      | some v =>
        cases hr : resultsA P h T rs with
        | none => simp [hr] at e
        | some us =>
          simp only [hv, hr] at e
          have : v :: us = vs := by simpa using e
          subst this
          obtain ⟨Us, hU, hrun⟩ := results_ok hs hT rs us hr
          obtain ⟨V, hV, hl⟩ := loadVar_ok (P := P) hs hb hv
          refine ⟨V :: Us, .cons _ _ _ _ hV hU, ?_⟩
          simp only [List.mapM_cons, Sem.run_bind, resF, hVa, asAddr, Sem.run_pure, Result.andThen_ok, hrun, hl]
    | _ => cases e
omit [Hook] in
theorem run_results {ρ : Rho} {h : Heap} {w : World} {T : Slots} {t : Array Value} {fd : Func} (hs : Sim w0 ρ h w) (hT : TRel ρ T t) {vs : List AV} (hv : resultsA P h T fd.results.toList = some vs) :
    ∃ V, Rel ρ (match vs with | [v] => v | vs => .tup vs) V ∧ (results fd t).run P w = .ok V w := by
  obtain ⟨Vs, hr, hrun⟩ := results_ok (P := P) hs hT _ vs hv
  have hmap : (fd.results.mapM (resF t) : Sem (Array Value)).run P w = .ok Vs.toArray w := by
    rw [Array.mapM_eq_mapM_toList]
    simp only [map_eq_pure_bind, Sem.run_bind, hrun, Result.andThen_ok, Sem.run_pure]
  rw [results_eq]
  simp only [Sem.run_bind, hmap, Result.andThen_ok, Sem.run_pure]
  cases hr with
  | nil => exact ⟨.tuple #[], .tup [] [] .nil, rfl⟩
  | cons v V r R h1 h2 =>
    cases h2 with
    | nil => exact ⟨V, h1, rfl⟩
    | cons v2 V2 r2 R2 h3 h4 => exact ⟨.tuple ⟨V :: V2 :: R2⟩, .tup _ _ (.cons _ _ _ _ h1 (.cons _ _ _ _ h3 h4)), by simp⟩
end
end Go.VM
namespace Go.VM
section
variable {P : Program} {w0 : World} {f0 : Nat} {CS0 : List Frame} [Hook]
omit [Hook] in
theorem TRel.scrub {ρ : Rho} {T : Slots} {t : Array Value} (hT : TRel ρ T t) (k : List AItem) : TRel ρ (scrub k T) t := by
  obtain ⟨n, r⟩ := T
  unfold VM.scrub
  split
  · rename_i all _ _ n' r' heq
    cases heq
    refine ⟨hT.n, fun s => ?_⟩
    rcases scrubT_get all r n s with h | ⟨h1, _⟩
    · rw [h]; exact .junk _
    · rw [h1]; exact hT.at_ s
  · exact hT
omit [Hook] in
theorem ChRel.append {ρ : Rho} : ∀ {a b : List (AV × Bool)} {A B : List PanicEntry}, ChRel ρ a A → ChRel ρ b B → ChRel ρ (a ++ b) (A ++ B)
  | _, _, _, _, .nil, h => h
  | _, _, _, _, .cons v V b r R hv hr, h => .cons v V b _ _ hv (ChRel.append hr h)
omit [Hook] in
theorem ChRel.noGoexit {ρ : Rho} : ∀ {a : List (AV × Bool)} {A : List PanicEntry}, ChRel ρ a A → A.dropWhile (!·.goexit) = []
  | _, _, .nil => rfl
  | _, _, .cons v V b r R hv hr => by simp [List.dropWhile, ChRel.noGoexit hr]
omit [Hook] in
theorem unRet_reach {ρ : Rho} {h : Heap} {w : World} {fn : Nat} {_T : Slots} {dfr : FK} {cs : List AFrame} {fr : Frame} {CS : List Frame} {v : AV} {V : Value} {fd : Func} {S : List (Nat × Key × AObj)}
    (hs : Sim w0 ρ h w) (hres : Resv ρ h S) (hg : Glob P ρ) (hb : FBase P ρ fn [] dfr fr) (hm : fr.mode = .returning) (hcs : CsRel P CS0 ρ S cs CS) (hbot : botFn fn dfr cs = (f0, .normal)) (hf : P.funcs[fr.fn]? = some fd) (hrun : (results fd fr.tmps).run P w = .ok V w) (hv : Rel ρ v V) :
    Reach P w0 f0 CS0 (lone fr CS w) (retTo v dfr cs h) := by
  have hd : fr.defers = [] := by
    have := hb.defers
    generalize fr.defers = D at this
    cases this; rfl
  cases dfr with
  | round l => exact trivial
  | normal =>
    have hk : fr.kind = .normal := hb.kind
    show Reach P w0 f0 CS0 _ (retN v cs h)
    unfold retN
    cases hcs with
    | nil =>
      have h0 : fn = f0 := by simpa [botFn] using hbot
      exact ⟨ρ, fr, w, V, .refl _ _, by rw [hb.name]; exact h0, ⟨hm, hd, hb.kind, fd, hf, hrun⟩, hv, hs, hg⟩
    | cons hf2 hr =>
      rename_i a b cs CS R1 S1
      have hst : step P (lone fr (b :: CS) w) = .next (lone (b.finish V) CS w) := step_leave_returned ⟨hm, hd, hk, fd, hf, hrun⟩
      refine .of_steps (.one hst) ?_
      cases hf2 with
      | run hb2 hm2 hs2 => exact finish_reach (am := .run) hs hres hg hb2 hm2 hs2 hr hbot hv
      | un hb2 hn2 hm2 hT2 => exact trivial
  | deferred =>
    have hk : fr.kind = .deferred := hb.kind
    show Reach P w0 f0 CS0 _ (retD cs h)
    unfold retD
    cases hcs with
    | nil => exact trivial
    | cons hf2 hr =>
      rename_i a b cs CS R1 S1
      have hun : (stepG P true { frame := fr, callers := b :: CS, status := .running, dying := none } w) = unwind P true fr (b :: CS) none w := stepG_un (by rw [hm]; simp)
      cases hf2 with
      | run hb2 hm2 hs2 => exact trivial
      | un hb2 hn2 hm2 hT2 =>
        rename_i fn2 T2 ds2 m2 dfr2
        generalize hmb : b.mode = mb at hm2
        have same : (∀ (e : PanicEntry) R, e.recovered = true → mb ≠ .panicking (e :: R)) → step P (lone fr (b :: CS) w) = .next (lone b CS w) := by
          intro hno
          refine step_lone_go ?_
          rw [hun]
          simp only [unwind, hd, hm, hf, doReturn, hk]
          simp [hrun, hmb]
          split
          · rename_i R
            exact absurd rfl (hno _ _ rfl)
          · rfl
        cases hm2 with
        | returning =>
          refine ⟨_, .one (same (by intro e R he hh; cases hh)), ρ, b, CS, w, _, rfl, hs, hres, hg, hb2, hn2, by rw [hmb]; exact .returning, hT2, hr, hbot⟩
        | panicking hch =>
          cases hch with
          | nil => exact ⟨_, .one (same (by intro e R he hh; cases hh)), ρ, b, CS, w, _, rfl, hs, hres, hg, hb2, hn2, by rw [hmb]; exact .panicking .nil, hT2, hr, hbot⟩
          | cons v2 V2 bb r R hv2 hr2 =>
            cases bb with
            | false => exact ⟨_, .one (same (by intro e R he hh; cases hh <;> cases he)), ρ, b, CS, w, _, rfl, hs, hres, hg, hb2, hn2, by rw [hmb]; exact .panicking (.cons v2 V2 false r R hv2 hr2), hT2, hr, hbot⟩
            | true =>
              have hgo := hr2.noGoexit
              have hst : step P (lone fr (b :: CS) w) = .next (lone { b with mode := .returning } CS w) := by
                refine step_lone_go ?_
                rw [hun]
                simp only [unwind, hd, hm, hf, doReturn, hk]
                simp [hrun, hmb, hgo]
              exact ⟨_, .one hst, ρ, _, CS, w, _, rfl, hs, hres, hg, ⟨hb2.name, hb2.fd, hb2.kind, hb2.round, hb2.defers⟩, hn2, .returning, hT2, hr, hbot⟩
end
end Go.VM
namespace Go.VM
section
variable {P : Program} {w0 : World} {f0 : Nat} {CS0 : List Frame} [Hook]
omit [Hook] in
theorem stepUn_reach {am : AMode} {T : Slots} {c : Ctx} {h : Heap} {m : Machine} (hst : StRel P w0 f0 CS0 (.un am T c h) m) : Reach P w0 f0 CS0 m (stepUn P am T c h) := by
  obtain ⟨fn, ds, dfr, cs⟩ := c
  obtain ⟨ρ, fr, CS, w, S, rfl, hs, hres, hg, hb, hnr, hmr, hT, hcs, hbot⟩ := hst
  have hne := hmr.ne_run
  have hun := stepG_un (P := P) (CS := CS) (w := w) hne
  obtain ⟨fd, hfd⟩ := hb.fd
  obtain ⟨hp, _⟩ := fnOf_some hfd
  have hp' : P.funcs[fr.fn]? = some fd := by rw [hb.name]; exact hp
  unfold stepUn
  cases ds with
  | cons d ds =>
    dsimp only
    have hdr := hb.defers
    generalize hD : fr.defers = D at hdr
    cases hdr with
    | cons _ D1 _ DS hd1 hds =>
      unfold unDefer
      cases hd1 with
      | mark b L hbk =>
        dsimp only
        split
        · rename_i hgd
          obtain ⟨o, ho, hlt, hr⟩ := hs.obj b L hbk
          rw [hgd] at ho; cases ho
          obtain ⟨hN, D, hDs, hO⟩ := hr
          cases hDs
          have hrun : (Instr.takeDeferred L.B).run P w = .ok [] (setBlock w L.B (.deferred none)) := by
            simp [Instr.takeDeferred, run_getObj hO (by simp), run_setObj hO (by simp)]
          have hs' : Sim w0 ρ (h.put b .dead) (setBlock w L.B (.deferred none)) :=
            hs.put hbk hgd rfl hN rfl rfl (by simp [setBlock]) (fun k hk => setBlock_other hk) (setBlock_at hlt) trivial
          exact ⟨_, .one (st_collected hne hD hrun), ρ, _, CS, _, S, rfl, hs', hres.kept (kept_put hbk), hg, ⟨hb.name, hb.fd, hb.kind, hb.round, hds⟩, hnr, hmr, hT, hcs, hbot⟩
        · exact trivial
      | fn g cp a Cp A hcp ha =>
        dsimp only
        cases hbd : bodyOf P g with
        | none => exact trivial
        | some c =>
          dsimp only
          have hst : step P (lone fr CS w) = .next (lone (Frame.enter P g (⟨A ++ Cp⟩ : Array Value) .deferred) ({ fr with defers := DS } :: CS) w) := by
            refine step_lone_go ?_
            rw [hun]
            have hcf : (callFunc g (⟨A ++ Cp⟩ : Array Value)).run P w = .ok (.enter g ⟨A ++ Cp⟩) w := run_callFunc hbd
            have harr : (⟨A⟩ : Array Value) ++ (⟨Cp⟩ : Array Value) = ⟨A ++ Cp⟩ := by simp
            simp only [unwind, hD, callDeferred, invoke]
            simp [harr, hcf]
          refine .of_steps (.one hst) ?_
          refine enter_reach (dfr := .deferred) (S := [] ++ S) trivial hs hres hg (.cons (.un ⟨hb.name, hb.fd, hb.kind, hb.round, hds⟩ hnr hmr hT) hcs) (by rw [cat_eq]; exact ha.append hcp) hbd hbot
  | nil =>
    dsimp only
    have hd : fr.defers = [] := by
      have := hb.defers
      generalize fr.defers = D at this
      cases this; rfl
    generalize hmd : fr.mode = md at hmr
    cases hmr with
    | returning =>
      dsimp only
      unfold unRet
      have hro : resultsOf P fn = fd.results.toList := by simp [resultsOf, hfd]
      rw [hro]
      cases hv : resultsA P h T fd.results.toList with
      | none => exact trivial
      | some vs =>
        obtain ⟨V, hV, hrun⟩ := run_results (P := P) hs hT hv
        have := fun v hv => unRet_reach (v := v) (CS0 := CS0) (_T := T) hs hres hg hb hmd hcs hbot hp' hrun hv
        cases vs with
        | nil => exact this _ hV
        | cons v r => cases r with
          | nil => exact this _ hV
          | cons v2 r => exact this _ hV
    | panicking hch =>
      rename_i ch CH
      dsimp only
      unfold unPanic
      cases hcs with
      | nil => exact trivial
      | cons hf2 hr =>
        rename_i a b cs CS R1 S1
        have hst : step P (lone fr (b :: CS) w) = .next (lone (b.raise CH) CS w) := step_leave_panicked ⟨hmd, hd, fd, hp'⟩
        cases hf2 with
        | run hb2 hm2 hs2 =>
          rename_i fn2 T2 k2 ds2 fk2
          have hra : b.raise CH = { b with mode := .panicking CH } := by unfold Frame.raise; rw [hm2]
          rw [hra] at hst
          have fin : notRound fk2 → Reach P w0 f0 CS0 (lone fr (b :: CS) w) (.un (.panicking ch) (scrub k2 T2) (.mk fn2 ds2 fk2 cs) h) := fun hn2 =>
            ⟨_, .one hst, ρ, _, CS, w, S1, rfl, hs, hres.right, hg, ⟨hb2.name, hb2.fd, hb2.kind, hb2.round, hb2.defers⟩, hn2, .panicking hch, hs2.scrub, hr, hbot⟩
          cases fk2 with
          | round l => exact trivial
          | normal => exact fin trivial
          | deferred => exact fin trivial
        | un hb2 hn2 hm2 hT2 =>
          rename_i fn2 T2 ds2 m2 fk2
          generalize hmb : b.mode = mb at hm2
          cases hm2 with
          | returning =>
            have hra : b.raise CH = { b with mode := .panicking CH } := by unfold Frame.raise; rw [hmb]
            rw [hra] at hst
            have fin : Reach P w0 f0 CS0 (lone fr (b :: CS) w) (.un (.panicking ch) (scrub [] T2) (.mk fn2 ds2 fk2 cs) h) :=
              ⟨_, .one hst, ρ, _, CS, w, S1, rfl, hs, hres.right, hg, ⟨hb2.name, hb2.fd, hb2.kind, hb2.round, hb2.defers⟩, hn2, .panicking hch, hT2.scrub _, hr, hbot⟩
            cases fk2 with
            | round l => exact hn2.elim
            | normal => exact fin
            | deferred => exact fin
          | panicking hch2 =>
            rename_i ch2 CH2
            have hra : b.raise CH = { b with mode := .panicking (CH ++ CH2) } := by unfold Frame.raise; rw [hmb]
            rw [hra] at hst
            have fin : Reach P w0 f0 CS0 (lone fr (b :: CS) w) (.un (.panicking (cat ch ch2)) (scrub [] T2) (.mk fn2 ds2 fk2 cs) h) :=
              ⟨_, .one hst, ρ, _, CS, w, S1, rfl, hs, hres.right, hg, ⟨hb2.name, hb2.fd, hb2.kind, hb2.round, hb2.defers⟩, hn2, by rw [cat_eq]; exact .panicking (hch.append hch2), hT2.scrub _, hr, hbot⟩
            cases fk2 with
            | round l => exact hn2.elim
            | normal => exact fin
            | deferred => exact fin
omit [Hook] in
theorem altAll_mem {ih : St → Bool} {T : Slots} {k : List AItem} {c : Ctx} : ∀ {l : List (AV × Heap)}, altAll ih T k c l = true → ∀ p ∈ l, ih (altOne T k c p.1 p.2) = true
  | [], _, p, hp => by cases hp
  | q :: r, h, p, hp => by
    have h' : cond (ih (altOne T k c q.1 q.2)) (altAll ih T k c r) false = true := h
    cases hb : ih (altOne T k c q.1 q.2) with
    | false => rw [hb] at h'; cases h'
    | true =>
      rw [hb] at h'
      cases hp with
      | head => exact hb
      | tail _ hp => exact altAll_mem h' p hp
def Ends (P : Program) (w0 : World) (f0 : Nat) (CS0 : List Frame) (post : AV → Heap → Bool) (m : Machine) : Prop :=
  ∃ ρ fr w v V h, Steps P m (lone fr CS0 w) ∧ fr.fn = f0 ∧ fr.leaving P w (.returned V) ∧ Rel ρ v V ∧ Sim w0 ρ h w ∧ Glob P ρ ∧ post v h = true
theorem runAll_reach (hP : TypesOk P) (hX : Env P w0) (hF : P.follows .mixedOrders = true) {post : AV → Heap → Bool} : ∀ (n : Nat) (s : St) (m : Machine), Reach P w0 f0 CS0 m s → runAll P post n s = true → Ends P w0 f0 CS0 post m := by
  intro n
  induction n with
  | zero => intro s m _ h; cases h
  | succ n ih =>
    intro s m h hr
    cases s with
    | bad => cases hr
    | done v hh =>
      obtain ⟨ρ, fr, w, V, a, b, c, d, e, g⟩ := h
      exact ⟨ρ, fr, w, v, V, hh, a, b, c, d, e, g, hr⟩
    | go T k c hh =>
      obtain ⟨m', hsteps, hst⟩ := h
      obtain ⟨ρ, fr, w, v, V, h2, a, b⟩ := ih _ _ (stepGo_reach hP hX hF hst) hr
      exact ⟨ρ, fr, w, v, V, h2, hsteps.trans a, b⟩
    | un am T c hh =>
      obtain ⟨m', hsteps, hst⟩ := h
      obtain ⟨ρ, fr, w, v, V, h2, a, b⟩ := ih _ _ (stepUn_reach hst) hr
      exact ⟨ρ, fr, w, v, V, h2, hsteps.trans a, b⟩
    | alt l T k c =>
      obtain ⟨fn, ds, dfr, cs⟩ := c
      obtain ⟨p, hp, ρ, fr, CS, w, V, R, S, hsteps, hs, hres, hg, hb, hm, hsus, hcs, hbot, hv⟩ := h
      have h1 := altAll_mem hr p hp
      have h2 := finish_reach (am := .run) hs hres hg hb hm hsus hcs hbot hv
      obtain ⟨ρ, fr, w, v, V, h3, a, b⟩ := ih _ _ h2 h1
      exact ⟨ρ, fr, w, v, V, h3, hsteps.trans a, b⟩
/-- runs of the evaluator that all end are the runs of the model's -/
theorem runAll_calls (hP : TypesOk P) (hX : Env P w0) (hF : P.follows .mixedOrders = true) {f : Nat} {c : Code} {args : List AV} {A : List Value} {ρ : Rho} {h : Heap} {w : World} {n : Nat} {post : AV → Heap → Bool} (hs : Sim w0 ρ h w) (hg : Glob P ρ) (hr : RelL ρ args A)
    (hb : bodyOf P f = some c) (hrun : runAll P post n (enter P f args .normal [] h c) = true) :
    Calls P f ⟨A⟩ w (fun e w' => ∃ ρ' v V h', e = .returned V ∧ Rel ρ' v V ∧ Sim w0 ρ' h' w' ∧ Glob P ρ' ∧ post v h' = true) := by
  intro cs
  have h1 := enter_reach (P := P) (w0 := w0) (f0 := f) (CS0 := cs) (dfr := .normal) trivial hs (Resv.nil _ _) hg .nil hr hb rfl
  obtain ⟨ρ', fr, w', v, V, h', hsteps, hfn, hl, hv, hs', hg', hp⟩ := runAll_reach hP hX hF n _ _ h1 hrun
  exact ⟨.returned V, w', fr, ⟨ρ', v, V, h', rfl, hv, hs', hg', hp⟩, hsteps, hfn, hl⟩
end
end Go.VM
namespace Go.VM
section
variable [Hook]
/-- the rows of the model's table that the evaluator knows -/
def vmRow (kd : Nat) (fd : Func) : Option (Array Value → Sem Value) := match kd with
  | 1 => some Extern.MathFloatBits.float64bits
  | 2 => some Extern.MathFloatBits.float64frombits
  | 3 => some Extern.AbiNoEscape.same
  | 4 => some Extern.BytealgIndexByte.indexByte
  | 5 => some (Extern.BytealgMakeNoZero.makeNoZero fd.params fd.resultTypes)
  | 6 => some (Extern.MathFloor.toIntegral "math.archTrunc" .zero)
  | _ => none
def RowsOk (P : Program) : Prop := ∀ f fd, fnOf P f = some fd → fd.body = none → ∀ impl, vmRow (extKind f) fd = some impl → Extern.findNext fd = none ∧ Extern.find fd = some impl
omit [Hook] in
theorem run_extern {P : Program} {f : Nat} {fd : Func} {A : Array Value} {w : World} {impl : Array Value → Sem Value} {V : Value} {w' : World} (hf : fnOf P f = some fd) (hb : fd.body = none) (h1 : Extern.findNext fd = none) (h2 : Extern.find fd = some impl) (hr : (impl A).run P w = .ok V w') :
    (callFunc f A).run P w = .ok (.value V) w' := by
  obtain ⟨hp, hn⟩ := fnOf_some hf
  have hn' : ¬ fd.name = "runtime.NumGoroutine" := by simpa using hn
  simp [callFunc, run_program, hp, hn', hb, h1, h2, hr]
omit [Hook] in
theorem ixByte_ok {c : Nat} (hc : c < 256) : ∀ (n k i : Nat), (ixByte n c k i = 0 ∧ Lib.indexByte (strBytes n k) (UInt8.ofNat c) = -1) ∨ (∃ j : Nat, ixByte n c k i = i + j + 1 ∧ Lib.indexByte (strBytes n k) (UInt8.ofNat c) = j)
  | 0, k, i => .inl ⟨rfl, rfl⟩
  | n + 1, k, i => by
    have hb : (UInt8.ofNat k == UInt8.ofNat c) = Nat.beq (Nat.mod k 256) c := by
      rw [Bool.eq_iff_iff, beq_iff_eq]
      constructor
      · intro h
        have h2 := congrArg UInt8.toNat h
        simp only [UInt8.toNat_ofNat'] at h2
        rw [Nat.mod_eq_of_lt (a := c) (by simpa using hc)] at h2
        have h3 : Nat.mod k 256 = c := h2
        rw [h3]; simp
      · intro h
        have h := Nat.eq_of_beq_eq_true h
        apply UInt8.toNat_inj.1
        simp only [UInt8.toNat_ofNat']
        rw [Nat.mod_eq_of_lt (a := c) (by simpa using hc)]
        exact h
    show _ ∨ _
    unfold ixByte
    have hidx : Lib.indexByte (strBytes (n + 1) k) (UInt8.ofNat c) = if (UInt8.ofNat k == UInt8.ofNat c) then 0 else if Lib.indexByte (strBytes n (k / 256)) (UInt8.ofNat c) == -1 then -1 else Lib.indexByte (strBytes n (k / 256)) (UInt8.ofNat c) + 1 := rfl
    rw [hidx, hb]
    cases hq : Nat.beq (Nat.mod k 256) c with
    | true => right; exact ⟨0, rfl, rfl⟩
    | false =>
      rcases ixByte_ok hc n (k / 256) (i + 1) with ⟨h1, h2⟩ | ⟨j, h1, h2⟩
      · left; rw [h2]; exact ⟨h1, rfl⟩
      · right
        refine ⟨j + 1, ?_, ?_⟩
        · show ixByte n c (k / 256) (i + 1) = _; rw [h1]; omega
        · rw [h2]
          have : ((j : Int) == -1) = false := by rw [beq_eq_false_iff_ne]; omega
          simp [this]
omit [Hook] in
theorem scalV_val {v : Option Value} {h : Heap} {why : String} {x : AV} {h' : Heap} (he : scalV v h why = .val x h') : h' = h ∧ ∃ V, v = some V ∧ ∀ ρ, Rel ρ x V := by
  unfold scalV at he
  split at he
  · unfold intV at he; rw [forceI_eq] at he; cases he; exact ⟨rfl, _, rfl, fun _ => .int _ _⟩
  · rename_i b; cases b <;> (cases he; exact ⟨rfl, _, rfl, fun _ => .bool _⟩)
  · rw [forceN_eq] at he; cases he; exact ⟨rfl, _, rfl, fun _ => .float _ _⟩
  · cases he
omit [Hook] in
theorem junk_rel {ρ : Rho} : ∀ (n : Nat) (C : List Value), n ≤ C.length → RelL ρ (rep n [AV.junk]) (C.take n)
  | 0, C, _ => by simpa [rep] using RelL.nil
  | n + 1, [], h => by simp at h
  | n + 1, c :: C, h => by
    have := junk_rel (ρ := ρ) n C (by simpa using h)
    simpa [rep, cat] using RelL.cons .junk c _ _ (.junk c) this
omit [Hook] in
theorem junk_len : ∀ n : Nat, (rep n [AV.junk]).length = n
  | 0 => rfl
  | n + 1 => by have := junk_len n; simp [rep, cat, this]
theorem extOk_of_rows {P : Program} (hR : RowsOk P) : ExtOk P := by
  intro f fd hf hb w0 ρ h w args A v h' hs hr he
  unfold extA at he
  have hrow := hR f fd hf hb
  unfold vmRow at hrow
  generalize extKind f = kd at he hrow
  unfold externK at he
  split at he
  · obtain ⟨r1, r2⟩ := hrow _ rfl
    split at he
    · cases he
      obtain ⟨X, rfl, hx⟩ := rel1 hr
      cases hx
      exact ⟨ρ, _, w, Sub.refl _, Kept.refl _ _, hs, .int _ _, run_extern hf hb r1 r2 rfl⟩
    · cases he
  · obtain ⟨r1, r2⟩ := hrow _ rfl
    split at he
    · cases he
      obtain ⟨X, rfl, hx⟩ := rel1 hr
      cases hx
      exact ⟨ρ, _, w, Sub.refl _, Kept.refl _ _, hs, .float _ _, run_extern hf hb r1 r2 rfl⟩
    · cases he
  · obtain ⟨r1, r2⟩ := hrow _ rfl
    split at he
    · cases he
      obtain ⟨X, rfl, hx⟩ := rel1 hr
      exact ⟨ρ, _, w, Sub.refl _, Kept.refl _ _, hs, hx, run_extern hf hb r1 r2 rfl⟩
    · cases he
  · obtain ⟨r1, r2⟩ := hrow _ rfl
    split at he
    · rename_i l c b
      cases hlt : Nat.blt b 256 with
      | false => rw [hlt] at he; cases he
      | true =>
        rw [hlt, cond_true, forceN_eq] at he
        cases he
        obtain ⟨X, Y, rfl, hx, hy⟩ := rel2 hr
        cases hx; cases hy
        have hrun := Lib.run_indexByteString (P := P) (strOf l c) (Int.ofNat b) w
        refine ⟨ρ, _, w, Sub.refl _, Kept.refl _ _, hs, ?_, run_extern hf hb r1 r2 hrun⟩
        have hd : (strOf l c).data.toList = strBytes l c := rfl
        have hc : (Int.ofNat b).toNat.toUInt8 = UInt8.ofNat b := rfl
        rw [hd, hc]
        rcases ixByte_ok (blt_lt hlt) l c 0 with ⟨h1, h2⟩ | ⟨j, h1, h2⟩
        · rw [h1, h2]; exact .int _ _
        · rw [h1, h2, Nat.zero_add]; exact .int _ _
    · cases he
  · obtain ⟨r1, r2⟩ := hrow _ rfl
    split at he
    · rename_i n
      obtain ⟨X, rfl, hx⟩ := rel1 hr
      cases hx
      unfold noZeroT at he
      split at he
      · rename_i t ht
        unfold noZero at he
        split at he
        · rename_i e hu
          cases hle : Nat.ble n 1000000 with
          | false => rw [hle] at he; cases he
          | true =>
            rw [hle, cond_true] at he
            have hle := Nat.le_of_ble_eq_true hle
            have hts : fd.resultTypes = #[t] := by
              have := congrArg List.toArray ht
              simpa using this
            rw [hts] at r2
            obtain ⟨cs, hrun, hsz, _⟩ := Lib.run_makeNoZero (P := P) w fd.params t e hu n (by omega)
            have hrun2 : ((do let a ← newRow e cs; pure (.slice (some a) n cs.size)) : Sem Value).run P w.drew.drew = .ok (.slice (some ⟨w.heap.size, 0, none⟩) n cs.size) (w.drew.drew.alloc (.cells cs e)) := by simp [newRow]
            have hval : ValOk P w0 ρ h w.drew.drew (do let a ← newRow e cs; pure (.slice (some a) n cs.size)) (h.alloc (.cells e (rep n [.junk]) true 0) (fun b h => .val (.slice b 0 n (.more 1)) h)) :=
              alloc_ok hs.drew.drew (L := ⟨w.heap.size, 0, cs.size⟩) rfl
                (fun b hn => ⟨hs.size, cs, (0, 0), rfl, rfl, fun j _ h2 => absurd h2 (Nat.not_lt_zero _), ⟨by rw [junk_len]; simpa using hsz, by rw [junk_len]; simpa using junk_rel n cs.toList (by simpa using hsz)⟩, (fun h => by cases h), (fun _ h => by cases h)⟩)
                (fun b h' hn hsub hk hs' => ⟨_, _, _, hsub, hk, hs', Rel.sliceMore b 0 n cs.size 1 ⟨w.heap.size, 0, cs.size⟩ (Rho.add_same _ _ _) hsz (by simp), hrun2⟩)
            rw [he] at hval
            obtain ⟨ρ', V, w', h1, h2, h3, h4, h5⟩ := hval
            rw [hrun2] at h5
            cases h5
            exact ⟨ρ', _, _, h1, h2, h3, h4, run_extern hf hb r1 r2 hrun⟩
        · cases he
      · cases he
    · cases he
  · obtain ⟨r1, r2⟩ := hrow _ rfl
    split at he
    · obtain ⟨rfl, V, hV, hrel⟩ := scalV_val he
      obtain ⟨X, rfl, hx⟩ := rel1 hr
      cases hx
      exact ⟨ρ, V, w, Sub.refl _, Kept.refl _ _, hs, hrel ρ, run_extern hf hb r1 r2 (semPure_run _ _ hV)⟩
    · cases he
  · cases he
end
end Go.VM
namespace Go.VM
theorem D8.ofNat_big (a b : Nat) (ha : a < 8) (hb : b < 8) (h : D8.ofNat a = D8.ofNat b) : a = b := D8.ofNat_inj a b ha hb h
theorem gkey_inj {a b : Nat} (ha : a < 64) (hb : b < 64) (h : gkey a = gkey b) : a = b := by
  unfold gkey at h
  injection h with h1 h2
  injection h2 with h2 _
  have e1 := D8.ofNat_inj _ _ (by omega) (by omega) h1
  have e2 := D8.ofNat_inj _ _ (by omega) (by omega) h2
  omega
/-- what is known of the package-level variables at the start: nothing, or what is laid -/
noncomputable def startT (laid : List (Nat × AObj)) : Nat → RT AObj
  | 0 => .nil
  | n + 1 => (startT laid n).set ((laid.lookup n).getD .dead) (gkey n)
noncomputable def startH (laid : List (Nat × AObj)) (n : Nat) : Heap := .mk (startT laid n) [.d0, .d0, .d0, .d0, .d0]
def startRho (tot : Nat → Nat) : Nat → Rho
  | 0 => fun _ => none
  | n + 1 => (startRho tot n).add (gkey n) ⟨n, 0, tot n⟩
theorem startRho_some {tot : Nat → Nat} : ∀ {n : Nat} {b : Key} {L : Loc}, startRho tot n b = some L → ∃ g, g < n ∧ b = gkey g ∧ L = ⟨g, 0, tot g⟩
  | 0, b, L, h => by cases h
  | n + 1, b, L, h => by
    unfold startRho Rho.add at h
    split at h
    · rename_i e; exact ⟨n, by omega, e.symm, by simpa using h.symm⟩
    · obtain ⟨g, h1, h2⟩ := startRho_some h; exact ⟨g, by omega, h2⟩
theorem startRho_at {tot : Nat → Nat} : ∀ {n g : Nat}, n ≤ 64 → g < n → startRho tot n (gkey g) = some ⟨g, 0, tot g⟩
  | 0, g, _, h => by omega
  | n + 1, g, h64, h => by
    unfold startRho Rho.add
    by_cases e : gkey n = gkey g
    · have := gkey_inj (by omega) (by omega) e; subst this; simp
    · rw [if_neg e]
      have : g ≠ n := by intro e'; subst e'; exact e rfl
      exact startRho_at (by omega) (by omega)
theorem startT_at {laid : List (Nat × AObj)} : ∀ {n g : Nat}, n ≤ 64 → g < n → (startT laid n).get (gkey g) = some ((laid.lookup g).getD .dead)
  | 0, g, _, h => by omega
  | n + 1, g, h64, h => by
    unfold startT
    by_cases e : g = n
    · subst e; exact RT.get_set_same _ _ _
    · rw [RT.get_set_other _ _ _ _ (fun e' => e (gkey_inj (by omega) (by omega) e').symm)]
      exact startT_at (by omega) (by omega)
/-- the start: nothing is known but what is laid -/
theorem start_sim {w : World} {n : Nat} {laid : List (Nat × AObj)} {tot : Nat → Nat} (h64 : n ≤ 64) (hn : n ≤ w.heap.size) (hl : ∀ g o, g < n → laid.lookup g = some o → ∀ ρ, ObjRel w.heap.size ρ ⟨g, 0, tot g⟩ w.heap[g]? o) : Sim w (startRho tot n) (startH laid n) w := by
  refine ⟨rfl, rfl, Nat.le_refl _, fun _ _ => rfl, ?_, ?_⟩
  · intro b L e
    obtain ⟨g, hg, rfl, rfl⟩ := startRho_some e
    refine ⟨_, startT_at h64 hg, by show g < _; omega, ?_⟩
    cases hx : laid.lookup g with
    | none => exact trivial
    | some o => exact hl g o hg hx _
  · intro b b' L L' o o' e e' _ _ _ _ hB
    obtain ⟨g, hg, rfl, rfl⟩ := startRho_some e
    obtain ⟨g', hg', rfl, rfl⟩ := startRho_some e'
    have : g = g' := hB
    rw [this]
theorem start_glob {P : Program} {tot : Nat → Nat} (h64 : P.globals.size ≤ 64) : Glob P (startRho tot P.globals.size) := fun _g hg => ⟨_, startRho_at h64 hg, rfl, rfl⟩
section
variable [Hook]
noncomputable def startSt (P : Program) (laid : List (Nat × AObj)) (f : Nat) (args : List AV) : St := match bodyOf P f with
  | some c => enter P f args .normal [] (startH laid P.globals.size) c
  | none => .bad "no body"
/-- what is laid is there -/
def LaidOk (P : Program) (laid : List (Nat × AObj)) (tot : Nat → Nat) (w : World) : Prop := P.globals.size ≤ w.heap.size ∧ ∀ g o, g < P.globals.size → laid.lookup g = some o → ∀ N ρ, ObjRel N ρ ⟨g, 0, tot g⟩ w.heap[g]? o
/-- a run of the evaluator from the start -/
theorem runAll_from {P : Program} (hR : RowsOk P) (hF : P.follows .mixedOrders = true) (h64 : P.globals.size ≤ 64) {laid : List (Nat × AObj)} {tot : Nat → Nat} {f : Nat} {args : List AV} {A : List Value} {w : World} (hS : SumOk P w) {n : Nat} {post : AV → Heap → Bool} (hw : LaidOk P laid tot w)
    (hr : RelL (startRho tot P.globals.size) args A) (hrun : runAll P post n (startSt P laid f args) = true) :
    Calls P f ⟨A⟩ w (fun e w' => ∃ ρ' v V h', e = .returned V ∧ Rel ρ' v V ∧ Sim w ρ' h' w' ∧ Glob P ρ' ∧ post v h' = true) := by
  unfold startSt at hrun
  cases hb : bodyOf P f with
  | none => rw [hb] at hrun; cases n <;> cases hrun
  | some c => rw [hb] at hrun; exact runAll_calls ⟨⟩ ⟨extOk_of_rows hR, hS⟩ hF (start_sim h64 hw.1 (fun g o hg hl ρ => hw.2 g o hg hl _ ρ)) (start_glob h64) hr hb hrun
omit [Hook] in
theorem LaidOk.of_old {P : Program} {laid : List (Nat × AObj)} {tot : Nat → Nat} {w w' : World} (h : LaidOk P laid tot w) (hs : w.heap.size ≤ w'.heap.size) (ho : ∀ k, k < w.heap.size → w'.heap[k]? = w.heap[k]?) : LaidOk P laid tot w' :=
  ⟨Nat.le_trans h.1 hs, fun g o hg hl N ρ => by rw [ho g (by have := h.1; omega)]; exact h.2 g o hg hl N ρ⟩
omit [Hook] in
theorem laidOk_nil {P : Program} {w : World} (h : P.globals.size ≤ w.heap.size) : LaidOk P [] (fun _ => 0) w := ⟨h, fun g o _ h => by cases h⟩
end
/-- no function is taken by its contract -/
abbrev noHook : Hook := ⟨fun _ => 0, fun _ => 0⟩
theorem sumOk_none {P : Program} (w : World) : @SumOk P noHook w := by
  intro f ρ h w' args A v h' _ _ he
  cases he
def isTrue (v : AV) (_ : Heap) : Bool := match v with | .bool b => b | _ => false
theorem isTrue_rel {ρ : Rho} {v : AV} {V : Value} {h : Heap} (hr : Rel ρ v V) (ht : isTrue v h = true) : V = .bool true := by
  cases hr with
  | bool b => have : b = true := ht
              rw [this]
  | _ => cases ht
end Go.VM
namespace Go.VM
theorem index_long : ∀ (s sub : List UInt8), s.length < sub.length → Lib.index s sub = -1
  | [], sub, h => by
    unfold Lib.index
    cases sub with
    | nil => simp at h
    | cons => simp
  | b :: l, sub, h => by
    unfold Lib.index
    have hp : sub.isPrefixOf (b :: l) = false := by
      rw [Bool.eq_false_iff]
      intro hp
      have := (List.isPrefixOf_iff_prefix.1 hp).length_le
      omega
    rw [hp, index_long l sub (by simp at h; omega)]
    simp
theorem prefix_code {n sl sc k : Nat} (hs : sc < 256 ^ sl) (hle : sl ≤ n) : (strBytes sl sc).isPrefixOf (strBytes n k) = Nat.beq (Nat.mod k (2 ^ (8 * sl))) sc := by
  have e2 := strBytes_take sl (n - sl) k
  rw [show sl + (n - sl) = n by omega] at e2
  have hpow : (2 : Nat) ^ (8 * sl) = 256 ^ sl := by rw [Nat.pow_mul]
  have hmod : Nat.mod k (2 ^ (8 * sl)) = k % 256 ^ sl := by rw [hpow]; rfl
  rw [hmod, Bool.eq_iff_iff, List.isPrefixOf_iff_prefix, List.prefix_iff_eq_take, strBytes_length, e2]
  constructor
  · intro h
    rw [strBytes_inj sl _ _ hs (Nat.mod_lt _ (Nat.pow_pos (by decide))) h]; simp
  · intro h; rw [Nat.eq_of_beq_eq_true h]
theorem ixStr_ok {sl sc : Nat} (hs : sc < 256 ^ sl) : ∀ (n k i : Nat), (ixStr n sl sc k i = 0 ∧ Lib.index (strBytes n k) (strBytes sl sc) = -1) ∨ (∃ j : Nat, ixStr n sl sc k i = i + j + 1 ∧ Lib.index (strBytes n k) (strBytes sl sc) = j)
  | 0, k, i => by
    unfold ixStr
    cases sl with
    | zero => right; exact ⟨0, rfl, rfl⟩
    | succ sl => left; exact ⟨rfl, rfl⟩
  | n + 1, k, i => by
    unfold ixStr
    cases hb : Nat.blt (n + 1) sl with
    | true =>
      left
      exact ⟨rfl, index_long _ _ (by rw [strBytes_length, strBytes_length]; exact blt_lt hb)⟩
    | false =>
      have hle : sl ≤ n + 1 := by
        rcases Nat.lt_or_ge (n + 1) sl with h | h
        · rw [← Nat.blt_eq] at h; rw [hb] at h; cases h
        · exact h
      have hp := prefix_code (n := n + 1) (k := k) hs hle
      have hidx : Lib.index (strBytes (n + 1) k) (strBytes sl sc) = if (strBytes sl sc).isPrefixOf (strBytes (n + 1) k) then 0 else if Lib.index (strBytes n (k / 256)) (strBytes sl sc) == -1 then -1 else Lib.index (strBytes n (k / 256)) (strBytes sl sc) + 1 := rfl
      rw [hidx, hp]
      cases hq : Nat.beq (Nat.mod k (2 ^ (8 * sl))) sc with
      | true => right; exact ⟨0, rfl, rfl⟩
      | false =>
        rcases ixStr_ok hs n (k / 256) (i + 1) with ⟨h1, h2⟩ | ⟨j, h1, h2⟩
        · left; rw [h2]; exact ⟨h1, rfl⟩
        · right
          refine ⟨j + 1, ?_, ?_⟩
          · show ixStr n sl sc (k / 256) (i + 1) = _; rw [h1]; omega
          · rw [h2]
            have : ((j : Int) == -1) = false := by rw [beq_eq_false_iff_ne]; omega
            simp [this]
section
variable [Hook]
/-- the world has grown, and what was there is there -/
structure Grew (w w' : World) : Prop where
  os : w'.os = w.os
  out : w'.output = w.output
  size : w.heap.size ≤ w'.heap.size
  old : ∀ k, k < w.heap.size → w'.heap[k]? = w.heap[k]?
omit [Hook] in
theorem Sim.grew {w0 w w' : World} {ρ : Rho} {h : Heap} (hs : Sim w0 ρ h w) (hg : Grew w w') : Sim w0 ρ h w' :=
  ⟨hg.os.trans hs.os, hg.out.trans hs.out, Nat.le_trans hs.size hg.size, fun k hk => (hg.old k (by have := hs.size; omega)).trans (hs.old k hk),
    fun b L e => let ⟨o, a, hlt, r⟩ := hs.obj b L e; ⟨o, a, Nat.lt_of_lt_of_le hlt hg.size, by rw [hg.old _ hlt]; exact r⟩, hs.inj⟩
omit [Hook] in
theorem Grew.of_sim {w w' : World} {ρ : Rho} {h : Heap} (hs : Sim w ρ h w') : Grew w w' := ⟨hs.os, hs.out, hs.size, hs.old⟩
/-- the contracts -/
structure Sums (P : Program) (w0 : World) : Prop where
  enters : ∀ f, sumKind f ≠ 0 → ∃ c, bodyOf P f = some c
  index : ∀ f, sumKind f = 1 → ∀ (s sub : ByteArray) (w : World), w0.heap.size ≤ w.heap.size → (∀ k, k < w0.heap.size → w.heap[k]? = w0.heap[k]?) → s.size < 4294967281 → Calls P f #[.string s, .string sub] w fun e w' => e = .returned (.int .i64 (Lib.index s.data.toList sub.data.toList)) ∧ w' = w
  contains : ∀ f, sumKind f = 2 → ∀ (s sub : ByteArray) (w : World), w0.heap.size ≤ w.heap.size → (∀ k, k < w0.heap.size → w.heap[k]? = w0.heap[k]?) → s.size < 4294967281 → Calls P f #[.string s, .string sub] w fun e w' => e = .returned (.bool (Lib.contains s.data.toList sub.data.toList)) ∧ w' = w
  truth : ∀ f, sumKind f = 3 → ∀ (w : World), w0.heap.size ≤ w.heap.size → (∀ k, k < w0.heap.size → w.heap[k]? = w0.heap[k]?) → Calls P f #[] w fun e w' => e = .returned (.bool true) ∧ Grew w w'
omit [Hook] in
theorem sumIx_some {vf : Nat → AV} {args : List AV} {h : Heap} {v : AV} {h' : Heap} (he : sumIx vf args h = some (v, h')) : ∃ l c sl sc, args = [.str l c, .str sl sc] ∧ l ≤ 1000000 ∧ v = vf (ixStr l sl sc c 0) ∧ h' = h := by
  unfold sumIx at he
  split at he
  · rename_i l c sl sc
    cases hb : Nat.ble l 1000000 with
    | false => rw [hb] at he; cases he
    | true =>
      rw [hb, cond_true, forceN_eq] at he
      have he : some (vf (ixStr l sl sc c 0), h) = some (v, h') := he
      injection he with he
      injection he with h1 h2
      exact ⟨l, c, sl, sc, rfl, Nat.le_of_ble_eq_true hb, h1.symm, h2.symm⟩
  · cases he
theorem sumOk_of {P : Program} {w0 : World} (hS : Sums P w0) : SumOk P w0 := by
  intro f ρ h w args A v h' hs hr he
  have key : ∀ vf, sumIx vf args h = some (v, h') → ∃ l c sl sc, args = [.str l c, .str sl sc] ∧ A = [.string (strOf l c), .string (strOf sl sc)] ∧ l ≤ 1000000 ∧ sc < 256 ^ sl ∧ v = vf (ixStr l sl sc c 0) ∧ h' = h := by
    intro vf he
    obtain ⟨l, c, sl, sc, rfl, hl, hv, hh⟩ := sumIx_some he
    obtain ⟨X, Y, rfl, hx, hy⟩ := rel2 hr
    cases hx; cases hy
    rename_i h1 h2
    exact ⟨l, c, sl, sc, rfl, rfl, hl, h2, hv, hh⟩
  have hne : sumKind f ≠ 0 := by intro e; rw [e] at he; cases he
  obtain ⟨c0, hb⟩ := hS.enters f hne
  refine ⟨run_callFunc hb, ?_⟩
  have hk : sumKind f = 1 ∨ sumKind f = 2 ∨ sumKind f = 3 := by
    match hk : sumKind f with
    | 0 => exact absurd hk hne
    | 1 => exact .inl rfl
    | 2 => exact .inr (.inl rfl)
    | 3 => exact .inr (.inr rfl)
    | n + 4 => rw [hk] at he; cases he
  have hsz : ∀ l c : Nat, l ≤ 1000000 → (strOf l c).size < 4294967281 := fun l c hl => by rw [strOf_size]; omega
  have hdat : ∀ l c, (strOf l c).data.toList = strBytes l c := fun _ _ => rfl
  rcases hk with hk | hk | hk
  · rw [hk] at he
    obtain ⟨l, c, sl, sc, rfl, rfl, hl, hsc, rfl, rfl⟩ := key ixInt he
    refine (hS.index f hk (strOf l c) (strOf sl sc) w hs.size hs.old (hsz l c hl)).mono ?_
    rintro e w' ⟨rfl, rfl⟩
    refine ⟨ρ, _, rfl, Sub.refl _, Kept.refl _ _, ?_, hs⟩
    rw [hdat, hdat]
    rcases ixStr_ok hsc l c 0 with ⟨h1, h2⟩ | ⟨j, h1, h2⟩
    · rw [h1, h2]; exact .int _ _
    · rw [h1, h2, Nat.zero_add]; exact .int _ _
  · rw [hk] at he
    obtain ⟨l, c, sl, sc, rfl, rfl, hl, hsc, rfl, rfl⟩ := key ixBool he
    refine (hS.contains f hk (strOf l c) (strOf sl sc) w hs.size hs.old (hsz l c hl)).mono ?_
    rintro e w' ⟨rfl, rfl⟩
    refine ⟨ρ, _, rfl, Sub.refl _, Kept.refl _ _, ?_, hs⟩
    rw [hdat, hdat]
    unfold Lib.contains
    rcases ixStr_ok hsc l c 0 with ⟨h1, h2⟩ | ⟨j, h1, h2⟩
    · rw [h1, h2]; exact .bool _
    · rw [h1, h2, Nat.zero_add]
      have : decide ((0 : Int) ≤ (j : Int)) = true := by simp
      rw [this]; exact .bool _
  · rw [hk] at he
    cases args with
    | nil =>
      have he : some (AV.bool true, h) = some (v, h') := he
      cases he
      cases hr
      refine (hS.truth f hk w hs.size hs.old).mono ?_
      rintro e w' ⟨rfl, hg⟩
      exact ⟨ρ, _, rfl, Sub.refl _, Kept.refl _ _, .bool _, hs.grew hg⟩
    | cons => cases he
end
end Go.VM
