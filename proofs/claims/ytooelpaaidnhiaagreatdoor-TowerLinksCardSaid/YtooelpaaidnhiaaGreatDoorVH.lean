/- The evaluator's machine follows the model's: the theorem, the start, the contracts; the same evaluator, written for the kernel. No conditions: a library text of the proof. -/
import Derived.Test.YtooelpaaidnhiaaGreatDoorVE
import Derived.Lib.MakeNoZero
import Derived.Lib.Bytealg
import Derived.Lib.IndexMore
import Derived.Handed
import Derived.OpenShut
import Derived.ProofKit
import Derived.LaidMore
import Derived.Lay
namespace Go.VM
section
variable {P:Program} {w0:Base} {f0:Nat} {CS0:List Frame} [Hook]
theorem wP(hP:TypesOk P)(hX:Env P w0)(hF:P.follows .mixedOrders=true){T:Slots}{k:List AItem}{c:Ctx}{h:Heap}{m:Machine}(hst:Fm P w0 f0 CS0 (.go T k c h) m):Reach P w0 f0 CS0 m (xT P T k c h):=by
 obtain⟨fn,ds,dfr,cs⟩:=c
 obtain⟨ρ,fr,CS,w,R,S,rfl,hs,hres,hg,hb,hm,hact,hcs,hbot⟩:=hst
 generalize htm:fr.tmps=t at hact
 generalize htd:fr.todo=l at hact
 cases hact with
 | plain hT hk=>
  subst htm
  cases hk with
  | nil=>
   show Reach P w0 f0 CS0 _ (leave T (.mk fn ds dfr cs) h)
   unfold leave
   have hrd:=hb.round
   have hkd:=hb.kind
   cases dfr with
   | normal=>exact⟨_,.one (Fx hm hrd htd),ρ,_,CS,w,S,rfl,hs,hres,hg,⟨hb.name,hb.fd,hb.kind,hb.round,hb.defers⟩,trivial,.returning,hT,hcs,hbot⟩
   | deferred=>exact⟨_,.one (Fx hm hrd htd),ρ,_,CS,w,S,rfl,hs,hres,hg,⟨hb.name,hb.fd,hb.kind,hb.round,hb.defers⟩,trivial,.returning,hT,hcs,hbot⟩
   | round lk=>
    obtain⟨L,hL,hro⟩:=hrd
    dsimp only
    cases hgl:h.get lk with
    | none=>exact trivial
    | some ob=>
     cases ob with
     | loop st p fl tm ps a b d=>
      cases hcs with
      | nil=>exact trivial
      | cons hf hr=>
       rename_i fa fb cs' CS' R1 S1
       dsimp only
       obtain⟨hN,hlt,t,Ld,hd,hTl,hO⟩:=mZ hs hL hgl
       have hrun:(Instr.endRound L.B none).run P w=.ok (.bool true) (al w L.B (.loop { state:=.ready,pending:=none,fn:=fl,tmps:=t,params:=⟨ps⟩,assign:=a,body:=b,defers:=Ld.B })):=by
        simp [Instr.endRound,Instr.getLoop,ai hO (by simp),aR hO (by simp)]
       have hs':Sim w0 ρ (h.put lk (.loop .ready none fl tm ps a b d)) (al w L.B (.loop { state:=.ready,pending:=none,fn:=fl,tmps:=t,params:=⟨ps⟩,assign:=a,body:=b,defers:=Ld.B })):=
        hs.put hL hgl rfl hN rfl rfl (by simp [al]) (fun k hk=>aO hk) (aV hlt) ⟨hN,t,Ld,hd,hTl,rfl⟩
       refine .of_steps (.one (zp hm hro hkd htd hrun)) ?_
       cases hf with
       | run hb2 hm2 hs2=>exact bE (am:=.run) hs' (Resv.kept (R:=R1++S1) hres (aK hL)) hg hb2 hm2 hs2 hr hbot (.bool true)
       | un hb2 hn2 hm2 hT2=>exact trivial
     | _=>exact trivial
  | cons hi hk=>
   rename_i a b k l
   cases hi with
   | code c=>exact sF hP hX hF hbot c k l ρ h w T fr hs hres hg hcs hb hm htd hk hT
   | inBlock id=>exact⟨_,.one (Bu hm htd),ρ,_,CS,w,[],S,rfl,hs,hres,hg,⟨hb.name,hb.fd,hb.kind,hb.round,hb.defers⟩,hm,.plain hT hk,hcs,hbot⟩
   | inLoop c=>exact⟨_,.one (Et hm htd),ρ,_,CS,w,[],S,rfl,hs,hres,hg,⟨hb.name,hb.fd,hb.kind,hb.round,hb.defers⟩,hm,.plain hT (.cons (.code c) (.cons (.inLoop c) hk)),hcs,hbot⟩
   | inScope c=>exact⟨_,.one (Bv hm htd),ρ,_,CS,w,[],S,rfl,hs,hres,hg,⟨hb.name,hb.fd,hb.kind,hb.round,hb.defers⟩,hm,.plain hT hk,hcs,hbot⟩
   | beginRound=>
    show Reach P w0 f0 CS0 _ (xS T k (.mk fn ds dfr cs) h)
    unfold xS
    have hrd:=hb.round
    cases dfr with
    | normal=>exact trivial
    | deferred=>exact trivial
    | round lk=>
     obtain⟨L,hL,hro⟩:=hrd
     dsimp only
     split
     ·rename_i p fl tm ps a b d hgl
      obtain⟨hN,hlt,t,Ld,hd,hTl,hO⟩:=mZ hs hL hgl
      have hrun:(Instr.beginRound L.B).run P w=.ok () (al w L.B (.loop { state:=.busy,pending:=p,fn:=fl,tmps:=t,params:=⟨ps⟩,assign:=a,body:=b,defers:=Ld.B })):=by
       simp [Instr.beginRound,Instr.getLoop,ai hO (by simp),aR hO (by simp)]
      have hs':Sim w0 ρ (h.put lk (.loop .busy p fl tm ps a b d)) (al w L.B (.loop { state:=.busy,pending:=p,fn:=fl,tmps:=t,params:=⟨ps⟩,assign:=a,body:=b,defers:=Ld.B })):=
       hs.put hL hgl rfl hN rfl rfl (by simp [al]) (fun k hk=>aO hk) (aV hlt) ⟨hN,t,Ld,hd,hTl,rfl⟩
      exact⟨_,.one (FH hm hro htd hrun),ρ,_,CS,_,[],S,rfl,hs',Resv.kept (R:=[]++S) hres (aK hL),hg,⟨hb.name,hb.fd,hb.kind,hb.round,hb.defers⟩,hm,.plain hT hk,hcs,hbot⟩
     ·exact trivial
 | ops hT ho hk=>
  subst htm
  exact lp hP hX hk hbot _ _ ρ h w T fr ho hs hres hg hcs hb hm htd hT
 | endRange hT hl hk=>
  subst htm
  rename_i lk L k l
  show Reach P w0 f0 CS0 _ (I8 lk T k (.mk fn ds dfr cs) h)
  unfold I8
  split
  ·rename_i fl tm ps a b d hgl
   obtain⟨hN,hlt,t,Ld,hd,hTl,hO⟩:=mZ hs hl hgl
   have hrun:(Instr.endLoop L.B).run P w=.ok none (al w L.B (.loop { state:=.exhausted,pending:=none,fn:=fl,tmps:=t,params:=⟨ps⟩,assign:=a,body:=b,defers:=Ld.B })):=by
    simp [Instr.endLoop,Instr.getLoop,ai hO (by simp),aR hO (by simp)]
   have hs':Sim w0 ρ (h.put lk (.loop .exhausted none fl tm ps a b d)) (al w L.B (.loop { state:=.exhausted,pending:=none,fn:=fl,tmps:=t,params:=⟨ps⟩,assign:=a,body:=b,defers:=Ld.B })):=
    hs.put hl hgl rfl hN rfl rfl (by simp [al]) (fun k hk=>aO hk) (aV hlt) ⟨hN,t,Ld,hd,hTl,rfl⟩
   exact⟨_,.one (zq hm htd hrun),ρ,_,CS,_,[],S,rfl,hs',Resv.kept (R:=[]++S) hres (aK hl),hg,⟨hb.name,hb.fd,hb.kind,hb.round,hb.defers⟩,hm,.plain hT hk,hcs,hbot⟩
  ·exact trivial
 | dops hD hk=>
  subst htm
  exact jd hP hX hk hbot _ _ _ _ ρ h w T fr R hs hres hg hcs hb hm htd hD
omit [Hook] in
theorem yT{fr:Frame}{CS:List Frame}{w:World}(hm:fr.mode≠.run):stepG P true { frame:=fr,callers:=CS,status:=.running,dying:=none } w=unwind P true fr CS none w:=by
 unfold stepG
 cases hmm:fr.mode with
 | run=>exact absurd hmm hm
 | returning=>simp [hmm]
 | panicking c=>simp [hmm]
omit [Hook] in
theorem MRel.ne_run{ρ:Rho}{a:AMode}{b:FrameMode}(h:MRel ρ a b):b≠.run:=by cases h<;>simp
def Fq(t:Array Value):ResultVar→Sem Value
 | .tmp a=>pure (t.getD a Go.undef)
 | .cell a ty=>do loadVar ty (←asAddr (t.getD a Go.undef))
omit [Hook] in
theorem Bi(fd:Func)(t:Array Value):results fd t=(do let vs ←fd.results.mapM (Fq t);pure (if h:vs.size=1 then vs[0] else .tuple vs)):=by
 unfold results
 congr 1
omit [Hook] in
theorem lP{ρ:Rho}{h:Heap}{w:World}{T:Slots}{t:Array Value}(hs:Sim w0 ρ h w)(hT:TRel ρ T t):∀ (rs:List ResultVar) (vs:List AV),c5 P h T rs=some vs→
  ∃ Vs,RelL ρ vs Vs∧(rs.mapM (Fq t):Sem (List Value)).run P w=.ok Vs w
 | [],vs,e=>by
  simp [c5] at e;subst e
  exact⟨[],.nil,by simp⟩
 | .tmp a::rs,vs,e=>by
  unfold c5 at e
  cases hr:c5 P h T rs with
  | none=>simp [hr] at e
  | some us=>
   simp [hr] at e
   subst e
   obtain⟨Us,hU,hrun⟩:=lP hs hT rs us hr
   refine⟨_,.cons _ _ _ _ (hT.at_ a) hU,?_⟩
   simp only [List.mapM_cons,Sem.run_bind,Fq,Sem.run_pure,Result.andThen_ok,hrun]
 | .cell a ty::rs,vs,e=>by
  unfold c5 at e
  have hrel:=hT.at_ a
  generalize T.get a=va at e hrel
  generalize hVa:t.getD a Go.undef=Va at hrel
  cases hrel with
  | ptr b off L hb=>
   dsimp only at e
   cases hv:(cond (bQ P ty) ((aW h b off (aU P ty)).map .agg) (cond (known P ty) (fv h b off) none)) with
   | none=>simp [hv] at e
   | some v=>
    cases hr:c5 P h T rs with
    | none=>simp [hr] at e
    | some us=>
     simp only [hv,hr] at e
     have:v::us=vs:=by simpa using e
     subst this
     obtain⟨Us,hU,hrun⟩:=lP hs hT rs us hr
     obtain⟨V,hV,hl⟩:=rN (P:=P) hs hb hv
     refine⟨V::Us,.cons _ _ _ _ hV hU,?_⟩
     simp only [List.mapM_cons,Sem.run_bind,Fq,hVa,asAddr,Sem.run_pure,Result.andThen_ok,hrun,hl]
  | _=>cases e
omit [Hook] in
theorem yU{ρ:Rho}{h:Heap}{w:World}{T:Slots}{t:Array Value}{fd:Func}(hs:Sim w0 ρ h w)(hT:TRel ρ T t){vs:List AV}(hv:c5 P h T fd.results.toList=some vs):
  ∃ V,Rel ρ (match vs with | [v]=>v | vs=>.tup vs) V∧(results fd t).run P w=.ok V w:=by
 obtain⟨Vs,hr,hrun⟩:=lP (P:=P) hs hT _ vs hv
 have hmap:(fd.results.mapM (Fq t):Sem (Array Value)).run P w=.ok Vs.toArray w:=by
  rw [Array.mapM_eq_mapM_toList]
  simp only [map_eq_pure_bind,Sem.run_bind,hrun,Result.andThen_ok,Sem.run_pure]
 rw [Bi]
 simp only [Sem.run_bind,hmap,Result.andThen_ok,Sem.run_pure]
 cases hr with
 | nil=>exact⟨.tuple #[],.tup [] [] .nil,rfl⟩
 | cons v V r R h1 h2=>
  cases h2 with
  | nil=>exact⟨V,h1,rfl⟩
  | cons v2 V2 r2 R2 h3 h4=>exact⟨.tuple ⟨V::V2::R2⟩,.tup _ _ (.cons _ _ _ _ h1 (.cons _ _ _ _ h3 h4)),by simp⟩
end
end Go.VM
namespace Go.VM
section
variable {P:Program} {w0:Base} {f0:Nat} {CS0:List Frame} [Hook]
omit [Hook] in
theorem TRel.scrub{ρ:Rho}{T:Slots}{t:Array Value}(hT:TRel ρ T t)(k:List AItem):TRel ρ (scrub k T) t:=by
 obtain⟨n,r⟩:=T
 unfold VM.scrub
 split
 ·rename_i all _ _ n' r' heq
  cases heq
  refine⟨hT.n,fun s=>?_⟩
  rcases iA all r n s with h | ⟨h1,_⟩
  ·rw [h];exact .junk _
  ·rw [h1];exact hT.at_ s
 ·exact hT
omit [Hook] in
theorem ChRel.append{ρ:Rho}:∀ {a b:List (AV × Bool)} {A B:List PanicEntry},ChRel ρ a A→ChRel ρ b B→ChRel ρ (a++b) (A++B)
 | _,_,_,_,.nil,h=>h
 | _,_,_,_,.cons v V b r R hv hr,h=>.cons v V b _ _ hv (ChRel.append hr h)
omit [Hook] in
theorem ChRel.noGoexit{ρ:Rho}:∀ {a:List (AV × Bool)} {A:List PanicEntry},ChRel ρ a A→A.dropWhile (!·.goexit)=[]
 | _,_,.nil=>rfl
 | _,_,.cons v V b r R hv hr=>by simp [List.dropWhile,ChRel.noGoexit hr]
omit [Hook] in
theorem yV{ρ:Rho}{h:Heap}{w:World}{fn:Nat}{dfr:FK}{cs:List AFrame}{fr:Frame}{CS:List Frame}{v:AV}{V:Value}{fd:Func}{S:List (Nat × Key × AObj)}
  (hs:Sim w0 ρ h w) (hres:Resv ρ h S) (hg:Glob P ρ) (hb:FBase P ρ fn [] dfr fr) (hm:fr.mode=.returning) (hcs:CsRel P CS0 ρ S cs CS) (hbot:gL fn dfr cs=(f0,.normal)) (hf:P.funcs[fr.fn]?=some fd) (hrun:(results fd fr.tmps).run P w=.ok V w) (hv:Rel ρ v V):
  Reach P w0 f0 CS0 (lone fr CS w) (qp v dfr cs h):=by
 have hd:fr.defers=[]:=by
  have:=hb.defers
  generalize fr.defers=D at this
  cases this;rfl
 cases dfr with
 | round l=>exact trivial
 | normal=>
  have hk:fr.kind=.normal:=hb.kind
  show Reach P w0 f0 CS0 _ (Jx v cs h)
  unfold Jx
  cases hcs with
  | nil=>
   have h0:fn=f0:=by simpa [gL] using hbot
   exact⟨ρ,fr,w,V,.refl _ _,by rw [hb.name];exact h0,⟨hm,hd,hb.kind,fd,hf,hrun⟩,hv,hs,hg⟩
  | cons hf2 hr=>
   rename_i a b cs CS R1 S1
   have hst:step P (lone fr (b::CS) w)=.next (lone (b.finish V) CS w):=step_leave_returned ⟨hm,hd,hk,fd,hf,hrun⟩
   refine .of_steps (.one hst) ?_
   cases hf2 with
   | run hb2 hm2 hs2=>exact bE (am:=.run) hs hres hg hb2 hm2 hs2 hr hbot hv
   | un hb2 hn2 hm2 hT2=>exact trivial
 | deferred=>
  have hk:fr.kind=.deferred:=hb.kind
  show Reach P w0 f0 CS0 _ (Jw cs h)
  unfold Jw
  cases hcs with
  | nil=>exact trivial
  | cons hf2 hr=>
   rename_i a b cs CS R1 S1
   have hun:(stepG P true { frame:=fr,callers:=b::CS,status:=.running,dying:=none } w)=unwind P true fr (b::CS) none w:=yT (by rw [hm];simp)
   cases hf2 with
   | run hb2 hm2 hs2=>exact trivial
   | un hb2 hn2 hm2 hT2=>
    rename_i fn2 T2 ds2 m2 dfr2
    generalize hmb:b.mode=mb at hm2
    have same:(∀ (e:PanicEntry) R,e.recovered=true→mb≠.panicking (e::R))→step P (lone fr (b::CS) w)=.next (lone b CS w):=by
     intro hno
     refine step_lone_go ?_
     rw [hun]
     simp only [unwind,hd,hm,hf,doReturn,hk]
     simp [hrun,hmb]
     split
     ·rename_i R
      exact absurd rfl (hno _ _ rfl)
     ·rfl
    cases hm2 with
    | returning=>
     refine⟨_,.one (same (by intro e R he hh;cases hh)),ρ,b,CS,w,_,rfl,hs,hres,hg,hb2,hn2,by rw [hmb];exact .returning,hT2,hr,hbot⟩
    | panicking hch=>
     cases hch with
     | nil=>exact⟨_,.one (same (by intro e R he hh;cases hh)),ρ,b,CS,w,_,rfl,hs,hres,hg,hb2,hn2,by rw [hmb];exact .panicking .nil,hT2,hr,hbot⟩
     | cons v2 V2 bb r R hv2 hr2=>
      cases bb with
      | false=>exact⟨_,.one (same (by intro e R he hh;cases hh<;>cases he)),ρ,b,CS,w,_,rfl,hs,hres,hg,hb2,hn2,by rw [hmb];exact .panicking (.cons v2 V2 false r R hv2 hr2),hT2,hr,hbot⟩
      | true=>
       have hgo:=hr2.noGoexit
       have hst:step P (lone fr (b::CS) w)=.next (lone { b with mode:=.returning } CS w):=by
        refine step_lone_go ?_
        rw [hun]
        simp only [unwind,hd,hm,hf,doReturn,hk]
        simp [hrun,hmb,hgo]
       exact⟨_,.one hst,ρ,_,CS,w,_,rfl,hs,hres,hg,⟨hb2.name,hb2.fd,hb2.kind,hb2.round,hb2.defers⟩,hn2,.returning,hT2,hr,hbot⟩
end
end Go.VM
namespace Go.VM
section
variable {P:Program} {w0:Base} {f0:Nat} {CS0:List Frame} [Hook]
omit [Hook] in
theorem wQ{am:AMode}{T:Slots}{c:Ctx}{h:Heap}{m:Machine}(hst:Fm P w0 f0 CS0 (.un am T c h) m):Reach P w0 f0 CS0 m (gv P am T c h):=by
 obtain⟨fn,ds,dfr,cs⟩:=c
 obtain⟨ρ,fr,CS,w,S,rfl,hs,hres,hg,hb,hnr,hmr,hT,hcs,hbot⟩:=hst
 have hne:=hmr.ne_run
 have hun:=yT (P:=P) (CS:=CS) (w:=w) hne
 obtain⟨fd,hfd⟩:=hb.fd
 obtain⟨hp,_⟩:=gN hfd
 have hp':P.funcs[fr.fn]?=some fd:=by rw [hb.name];exact hp
 unfold gv
 cases ds with
 | cons d ds=>
  dsimp only
  have hdr:=hb.defers
  generalize hD:fr.defers=D at hdr
  cases hdr with
  | cons _ D1 _ DS hd1 hds=>
   unfold Dn
   cases hd1 with
   | mark b L hbk=>
    dsimp only
    split
    ·rename_i hgd
     obtain⟨o,ho,hlt,hr⟩:=hs.obj b L hbk
     rw [hgd] at ho;cases ho
     obtain⟨hN,D,hDs,hO⟩:=hr
     cases hDs
     have hrun:(Instr.takeDeferred L.B).run P w=.ok [] (al w L.B (.deferred none)):=by
      simp [Instr.takeDeferred,ai hO (by simp),aR hO (by simp)]
     have hs':Sim w0 ρ (h.put b .dead) (al w L.B (.deferred none)):=
      hs.put hbk hgd rfl hN rfl rfl (by simp [al]) (fun k hk=>aO hk) (aV hlt) trivial
     exact⟨_,.one (wZ hne hD hrun),ρ,_,CS,_,S,rfl,hs',hres.kept (aK hbk),hg,⟨hb.name,hb.fd,hb.kind,hb.round,hds⟩,hnr,hmr,hT,hcs,hbot⟩
    ·exact trivial
   | fn g cp a Cp A hcp ha=>
    dsimp only
    cases hbd:bodyOf P g with
    | none=>exact trivial
    | some c=>
     dsimp only
     have hst:step P (lone fr CS w)=.next (lone (Frame.enter P g (⟨A++Cp⟩:Array Value) .deferred) ({ fr with defers:=DS }::CS) w):=by
      refine step_lone_go ?_
      rw [hun]
      have hcf:(callFunc g (⟨A++Cp⟩:Array Value)).run P w=.ok (.enter g ⟨A++Cp⟩) w:=eN hbd
      have harr:(⟨A⟩:Array Value)++(⟨Cp⟩:Array Value)=⟨A++Cp⟩:=by simp
      simp only [unwind,hD,callDeferred,invoke]
      simp [harr,hcf]
     refine .of_steps (.one hst) ?_
     refine fO (dfr:=.deferred) (S:=[]++S) trivial hs hres hg (.cons (.un ⟨hb.name,hb.fd,hb.kind,hb.round,hds⟩ hnr hmr hT) hcs) (by rw [aL];exact ha.append hcp) hbd hbot
 | nil=>
  dsimp only
  have hd:fr.defers=[]:=by
   have:=hb.defers
   generalize fr.defers=D at this
   cases this;rfl
  generalize hmd:fr.mode=md at hmr
  cases hmr with
  | returning=>
   dsimp only
   unfold Dq
   have hro:gZ P fn=fd.results.toList:=by simp [gZ,hfd]
   rw [hro]
   cases hv:c5 P h T fd.results.toList with
   | none=>exact trivial
   | some vs=>
    obtain⟨V,hV,hrun⟩:=yU (P:=P) hs hT hv
    have:=fun v hv=>yV (v:=v) (CS0:=CS0) hs hres hg hb hmd hcs hbot hp' hrun hv
    cases vs with
    | nil=>exact this _ hV
    | cons v r=>cases r with
     | nil=>exact this _ hV
     | cons v2 r=>exact this _ hV
  | panicking hch=>
   rename_i ch CH
   dsimp only
   unfold Dp
   cases hcs with
   | nil=>exact trivial
   | cons hf2 hr=>
    rename_i a b cs CS R1 S1
    have hst:step P (lone fr (b::CS) w)=.next (lone (b.raise CH) CS w):=step_leave_panicked ⟨hmd,hd,fd,hp'⟩
    cases hf2 with
    | run hb2 hm2 hs2=>
     rename_i fn2 T2 k2 ds2 fk2
     have hra:b.raise CH={ b with mode:=.panicking CH }:=by unfold Frame.raise;rw [hm2]
     rw [hra] at hst
     have fin:gK fk2→Reach P w0 f0 CS0 (lone fr (b::CS) w) (.un (.panicking ch) (scrub k2 T2) (.mk fn2 ds2 fk2 cs) h):=fun hn2=>
      ⟨_,.one hst,ρ,_,CS,w,S1,rfl,hs,hres.right,hg,⟨hb2.name,hb2.fd,hb2.kind,hb2.round,hb2.defers⟩,hn2,.panicking hch,hs2.scrub,hr,hbot⟩
     cases fk2 with
     | round l=>exact trivial
     | normal=>exact fin trivial
     | deferred=>exact fin trivial
    | un hb2 hn2 hm2 hT2=>
     rename_i fn2 T2 ds2 m2 fk2
     generalize hmb:b.mode=mb at hm2
     cases hm2 with
     | returning=>
      have hra:b.raise CH={ b with mode:=.panicking CH }:=by unfold Frame.raise;rw [hmb]
      rw [hra] at hst
      have fin:Reach P w0 f0 CS0 (lone fr (b::CS) w) (.un (.panicking ch) (scrub [] T2) (.mk fn2 ds2 fk2 cs) h):=
       ⟨_,.one hst,ρ,_,CS,w,S1,rfl,hs,hres.right,hg,⟨hb2.name,hb2.fd,hb2.kind,hb2.round,hb2.defers⟩,hn2,.panicking hch,hT2.scrub _,hr,hbot⟩
      cases fk2 with
      | round l=>exact hn2.elim
      | normal=>exact fin
      | deferred=>exact fin
     | panicking hch2=>
      rename_i ch2 CH2
      have hra:b.raise CH={ b with mode:=.panicking (CH++CH2) }:=by unfold Frame.raise;rw [hmb]
      rw [hra] at hst
      have fin:Reach P w0 f0 CS0 (lone fr (b::CS) w) (.un (.panicking (cat ch ch2)) (scrub [] T2) (.mk fn2 ds2 fk2 cs) h):=
       ⟨_,.one hst,ρ,_,CS,w,S1,rfl,hs,hres.right,hg,⟨hb2.name,hb2.fd,hb2.kind,hb2.round,hb2.defers⟩,hn2,by rw [aL];exact .panicking (hch.append hch2),hT2.scrub _,hr,hbot⟩
      cases fk2 with
      | round l=>exact hn2.elim
      | normal=>exact fin
      | deferred=>exact fin
omit [Hook] in
theorem sG{ih:St→Bool}{T:Slots}{k:List AItem}{c:Ctx}:∀ {l:List (AV × Heap)},pu ih T k c l=true→∀ p ∈ l,ih (mq T k c p.1 p.2)=true
 | [],_,p,hp=>by cases hp
 | q::r,h,p,hp=>by
  have h':cond (ih (mq T k c q.1 q.2)) (pu ih T k c r) false=true:=h
  cases hb:ih (mq T k c q.1 q.2) with
  | false=>rw [hb] at h';cases h'
  | true=>
   rw [hb] at h'
   cases hp with
   | head=>exact hb
   | tail _ hp=>exact sG h' p hp
def Lg(P:Program)(w0:Base)(f0:Nat)(CS0:List Frame)(post:AV→Heap→Bool)(m:Machine):Prop:=
 ∃ ρ fr w v V h,Steps P m (lone fr CS0 w)∧fr.fn=f0∧fr.leaving P w (.returned V)∧Rel ρ v V∧Sim w0 ρ h w∧Glob P ρ∧post v h=true
theorem wR(hP:TypesOk P)(hX:Env P w0)(hF:P.follows .mixedOrders=true){post:AV→Heap→Bool}:∀ (n:Nat) (s:St) (m:Machine),Reach P w0 f0 CS0 m s→jR P post n s=true→Lg P w0 f0 CS0 post m:=by
 intro n
 induction n with
 | zero=>intro s m _ h;cases h
 | succ n ih=>
  intro s m h hr
  cases s with
  | bad=>cases hr
  | done v hh=>
   obtain⟨ρ,fr,w,V,a,b,c,d,e,g⟩:=h
   exact⟨ρ,fr,w,v,V,hh,a,b,c,d,e,g,hr⟩
  | go T k c hh=>
   obtain⟨m',hsteps,hst⟩:=h
   obtain⟨ρ,fr,w,v,V,h2,a,b⟩:=ih _ _ (wP hP hX hF hst) hr
   exact⟨ρ,fr,w,v,V,h2,hsteps.trans a,b⟩
  | un am T c hh=>
   obtain⟨m',hsteps,hst⟩:=h
   obtain⟨ρ,fr,w,v,V,h2,a,b⟩:=ih _ _ (wQ hst) hr
   exact⟨ρ,fr,w,v,V,h2,hsteps.trans a,b⟩
  | alt l T k c=>
   obtain⟨fn,ds,dfr,cs⟩:=c
   obtain⟨p,hp,ρ,fr,CS,w,V,R,S,hsteps,hs,hres,hg,hb,hm,hsus,hcs,hbot,hv⟩:=h
   have h1:=sG hr p hp
   have h2:=bE (am:=.run) hs hres hg hb hm hsus hcs hbot hv
   obtain⟨ρ,fr,w,v,V,h3,a,b⟩:=ih _ _ h2 h1
   exact⟨ρ,fr,w,v,V,h3,hsteps.trans a,b⟩
theorem cU(hP:TypesOk P)(hX:Env P w0)(hF:P.follows .mixedOrders=true){f:Nat}{c:Code}{args:List AV}{A:List Value}{ρ:Rho}{h:Heap}{w:World}{n:Nat}{post:AV→Heap→Bool}(hs:Sim w0 ρ h w)(hg:Glob P ρ)(hr:RelL ρ args A)
  (hb:bodyOf P f=some c) (hrun:jR P post n (enter P f args .normal [] h c)=true):
  Calls P f ⟨A⟩ w (fun e w'=>∃ ρ' v V h',e=.returned V∧Rel ρ' v V∧Sim w0 ρ' h' w'∧Glob P ρ'∧post v h'=true):=by
 intro cs
 have h1:=fO (P:=P) (w0:=w0) (f0:=f) (CS0:=cs) (dfr:=.normal) trivial hs (Resv.nil _ _) hg .nil hr hb rfl
 obtain⟨ρ',fr,w',v,V,h',hsteps,hfn,hl,hv,hs',hg',hp⟩:=wR hP hX hF n _ _ h1 hrun
 exact⟨.returned V,w',fr,⟨ρ',v,V,h',rfl,hv,hs',hg',hp⟩,hsteps,hfn,hl⟩
end
end Go.VM
namespace Go.VM
section
variable [Hook]
def vmRow(kd:Nat)(fd:Func):Option (Array Value→Sem Value):=match kd with
 | 1=>some Extern.MathFloatBits.float64bits
 | 2=>some Extern.MathFloatBits.float64frombits
 | 3=>some Extern.AbiNoEscape.same
 | 4=>some Extern.BytealgIndexByte.indexByte
 | 5=>some (Extern.BytealgMakeNoZero.makeNoZero fd.params fd.resultTypes)
 | 6=>some (Extern.MathFloor.toIntegral "math.archTrunc" .zero)
 | 7=>some Extern.MapsClone.clone
 | 8=>some Extern.BytealgCount.count
 | _=>none
def RowsOk(P:Program):Prop:=∀ f fd,jN P f=some fd→fd.body=none→∀ impl,vmRow (eB f) fd=some impl→Extern.findNext fd=none∧Extern.find fd=some impl
omit [Hook] in
theorem cC{P:Program}{f:Nat}{fd:Func}{A:Array Value}{w:World}{impl:Array Value→Sem Value}{V:Value}{w':World}(hf:jN P f=some fd)(hb:fd.body=none)(h1:Extern.findNext fd=none)(h2:Extern.find fd=some impl)(hr:(impl A).run P w=.ok V w'):
  (callFunc f A).run P w=.ok (.value V) w':=by
 obtain⟨hp,hn⟩:=gN hf
 have hn':¬ fd.name= "runtime.NumGoroutine":=by simpa using hn
 simp [callFunc,run_program,hp,hn',hb,h1,h2,hr]
omit [Hook] in
theorem vN{c:Nat}(hc:c < 256):∀ (n k i:Nat),(mh n c k i=0∧Lib.indexByte (ac n k) (UInt8.ofNat c)=-1)∨(∃ j:Nat,mh n c k i=i+j+1∧Lib.indexByte (ac n k) (UInt8.ofNat c)=j)
 | 0,k,i=>.inl ⟨rfl,rfl⟩
 | n+1,k,i=>by
  have hb:(UInt8.ofNat k == UInt8.ofNat c)=Nat.beq (Nat.mod k 256) c:=by
   rw [Bool.eq_iff_iff,beq_iff_eq]
   constructor
   ·intro h
    have h2:=congrArg UInt8.toNat h
    simp only [UInt8.toNat_ofNat'] at h2
    rw [Nat.mod_eq_of_lt (a:=c) (by simpa using hc)] at h2
    have h3:Nat.mod k 256=c:=h2
    rw [h3];simp
   ·intro h
    have h:=Nat.eq_of_beq_eq_true h
    apply UInt8.toNat_inj.1
    simp only [UInt8.toNat_ofNat']
    rw [Nat.mod_eq_of_lt (a:=c) (by simpa using hc)]
    exact h
  show _∨_
  unfold mh
  have hidx:Lib.indexByte (ac (n+1) k) (UInt8.ofNat c)=if (UInt8.ofNat k == UInt8.ofNat c) then 0 else if Lib.indexByte (ac n (k / 256)) (UInt8.ofNat c) == -1 then -1 else Lib.indexByte (ac n (k / 256)) (UInt8.ofNat c)+1:=rfl
  rw [hidx,hb]
  cases hq:Nat.beq (Nat.mod k 256) c with
  | true=>right;exact⟨0,rfl,rfl⟩
  | false=>
   rcases vN hc n (k / 256) (i+1) with ⟨h1,h2⟩ | ⟨j,h1,h2⟩
   ·left;rw [h2];exact⟨h1,rfl⟩
   ·right
    refine⟨j+1,?_,?_⟩
    ·show mh n c (k / 256) (i+1)=_;rw [h1];omega
    ·rw [h2]
     have:((j:Int) == -1)=false:=by rw [beq_eq_false_iff_ne];omega
     simp [this]
omit [Hook] in
theorem sI{c:Nat}(hc:c < 256):∀ (n k a:Nat),o8 n c k a=a+Lib.countByte (ac n k) (UInt8.ofNat c)
 | 0,k,a=>by simp [o8,ac,Lib.countByte]
 | n+1,k,a=>by
  have hb:(UInt8.ofNat k == UInt8.ofNat c)=Nat.beq (Nat.mod k 256) c:=by
   rw [Bool.eq_iff_iff,beq_iff_eq]
   constructor
   ·intro h
    have h2:=congrArg UInt8.toNat h
    simp only [UInt8.toNat_ofNat'] at h2
    rw [Nat.mod_eq_of_lt (a:=c) (by simpa using hc)] at h2
    have h3:Nat.mod k 256=c:=h2
    rw [h3];simp
   ·intro h
    have h:=Nat.eq_of_beq_eq_true h
    apply UInt8.toNat_inj.1
    simp only [UInt8.toNat_ofNat']
    rw [Nat.mod_eq_of_lt (a:=c) (by simpa using hc)]
    exact h
  have ih:=sI hc n (k / 256)
  unfold Lib.countByte at ih ⊢
  show o8 n c (k / 256) (cond (Nat.beq (Nat.mod k 256) c) (a+1) a)=a+(UInt8.ofNat k::ac n (k / 256)).count (UInt8.ofNat c)
  rw [ih,List.count_cons,hb]
  cases Nat.beq (Nat.mod k 256) c
  ·show a+_=_;simp
  ·show a+1+_=_;simp;omega
omit [Hook] in
theorem En{v:Option Value}{h:Heap}{why:String}{x:AV}{h':Heap}(he:scalV v h why=.val x h'):h'=h∧∃ V,v=some V∧∀ ρ,Rel ρ x V:=by
 unfold scalV at he
 split at he
 ·unfold intV at he;rw [jY] at he;cases he;exact⟨rfl,_,rfl,fun _=>.int _ _⟩
 ·rename_i b;cases b<;>(cases he;exact⟨rfl,_,rfl,fun _=>.bool _⟩)
 ·rw [af] at he;cases he;exact⟨rfl,_,rfl,fun _=>.float _ _⟩
 ·cases he
omit [Hook] in
theorem yW{ρ:Rho}:∀ (n:Nat) (C:List Value),n≤C.length→RelL ρ (rep n [AV.junk]) (C.take n)
 | 0,C,_=>by simpa [rep] using RelL.nil
 | n+1,[],h=>by simp at h
 | n+1,c::C,h=>by
  have:=yW (ρ:=ρ) n C (by simpa using h)
  simpa [rep,cat] using RelL.cons .junk c _ _ (.junk c) this
omit [Hook] in
theorem sJ:∀ n:Nat,(rep n [AV.junk]).length=n
 | 0=>rfl
 | n+1=>by have:=sJ n;simp [rep,cat,this]
theorem CE{P:Program}(hR:RowsOk P){f:Nat}{fd:Func}(hf:jN P f=some fd)(hb:fd.body=none){w0:Base}{ρ:Rho}{h:Heap}{w:World}{args:List AV}{A:List Value}{v:AV}{h':Heap}(hs:Sim w0 ρ h w)(hr:RelL ρ args A)
  (he:dO P (eB f) fd args h=.val v h'):∃ ρ' V w',Sub ρ ρ'∧Kept ρ h ρ' h'∧Sim w0 ρ' h' w'∧Rel ρ' v V∧(callFunc f ⟨A⟩).run P w=.ok (.value V) w':=by
 have hrow:=hR f fd hf hb
 unfold vmRow at hrow
 generalize eB f=kd at he hrow
 unfold dO at he
 split at he
 ·obtain⟨r1,r2⟩:=hrow _ rfl
  split at he
  ·cases he
   obtain⟨X,rfl,hx⟩:=wK hr
   cases hx
   exact⟨ρ,_,w,Sub.refl _,Kept.refl _ _,hs,.int _ _,cC hf hb r1 r2 rfl⟩
  ·cases he
 ·obtain⟨r1,r2⟩:=hrow _ rfl
  split at he
  ·cases he
   obtain⟨X,rfl,hx⟩:=wK hr
   cases hx
   exact⟨ρ,_,w,Sub.refl _,Kept.refl _ _,hs,.float _ _,cC hf hb r1 r2 rfl⟩
  ·cases he
 ·obtain⟨r1,r2⟩:=hrow _ rfl
  split at he
  ·cases he
   obtain⟨X,rfl,hx⟩:=wK hr
   exact⟨ρ,_,w,Sub.refl _,Kept.refl _ _,hs,hx,cC hf hb r1 r2 rfl⟩
  ·cases he
 ·obtain⟨r1,r2⟩:=hrow _ rfl
  split at he
  ·rename_i l c b
   cases hlt:Nat.blt b 256 with
   | false=>rw [hlt] at he;cases he
   | true=>
    rw [hlt,cond_true,af] at he
    cases he
    obtain⟨X,Y,rfl,hx,hy⟩:=EZ hr
    cases hx;cases hy
    have hrun:=Lib.run_indexByteString (P:=P) (strOf l c) (Int.ofNat b) w
    refine⟨ρ,_,w,Sub.refl _,Kept.refl _ _,hs,?_,cC hf hb r1 r2 hrun⟩
    have hd:(strOf l c).data.toList=ac l c:=rfl
    have hc:(Int.ofNat b).toNat.toUInt8=UInt8.ofNat b:=rfl
    rw [hd,hc]
    rcases vN (cb hlt) l c 0 with ⟨h1,h2⟩ | ⟨j,h1,h2⟩
    ·rw [h1,h2];exact .int _ _
    ·rw [h1,h2,Nat.zero_add];exact .int _ _
  ·cases he
 ·obtain⟨r1,r2⟩:=hrow _ rfl
  split at he
  ·rename_i n
   obtain⟨X,rfl,hx⟩:=wK hr
   cases hx
   unfold Dk at he
   split at he
   ·rename_i t ht
    unfold GC at he
    split at he
    ·rename_i e hu
     cases hle:Nat.ble n 1000000 with
     | false=>rw [hle] at he;cases he
     | true=>
      rw [hle,cond_true] at he
      have hle:=Nat.le_of_ble_eq_true hle
      have hts:fd.resultTypes=#[t]:=by
       have:=congrArg List.toArray ht
       simpa using this
      rw [hts] at r2
      obtain⟨cs,hrun,hsz,_⟩:=Lib.run_makeNoZero (P:=P) w fd.params t e hu n (by omega)
      have hrun2:((do let a ←newRow e cs;pure (.slice (some a) n cs.size)):Sem Value).run P w.drew.drew=.ok (.slice (some ⟨w.heap.size,0,none⟩) n cs.size) (w.drew.drew.alloc (.cells cs e)):=by simp [newRow]
      have hval:ValOk P w0 ρ h w.drew.drew (do let a ←newRow e cs;pure (.slice (some a) n cs.size)) (h.alloc (.cells e (rep n [.junk]) true 0) (fun b h=>.val (.slice b 0 n (.more 1)) h)):=
       fe hs.drew.drew (L:=⟨w.heap.size,0,cs.size⟩) rfl
        (fun b hn=>⟨hs.new,cs,(0,0),rfl,rfl,fun j _ h2=>absurd h2 (Nat.not_lt_zero _),⟨by rw [sJ];simpa using hsz,by rw [sJ];simpa using yW n cs.toList (by simpa using hsz)⟩,(fun h=>by cases h),(fun _ h=>by cases h)⟩)
        (fun b h' hn hsub hk hs'=>⟨_,_,_,hsub,hk,hs',Rel.sliceMore b 0 n cs.size 1 ⟨w.heap.size,0,cs.size⟩ (Rho.add_same _ _ _) hsz (by simp),hrun2⟩)
      rw [he] at hval
      obtain⟨ρ',V,w',h1,h2,h3,h4,h5⟩:=hval
      rw [hrun2] at h5
      cases h5
      exact⟨ρ',_,_,h1,h2,h3,h4,cC hf hb r1 r2 hrun⟩
    ·cases he
   ·cases he
  ·cases he
 ·obtain⟨r1,r2⟩:=hrow _ rfl
  split at he
  ·obtain⟨rfl,V,hV,hrel⟩:=En he
   obtain⟨X,rfl,hx⟩:=wK hr
   cases hx
   exact⟨ρ,V,w,Sub.refl _,Kept.refl _ _,hs,hrel ρ,cC hf hb r1 r2 (fH _ _ hV)⟩
  ·cases he
 ·obtain⟨r1,r2⟩:=hrow _ rfl
  split at he
  ·rename_i t m
   obtain⟨X,rfl,hx⟩:=wK hr
   cases hx with
   | iface _ _ M hM=>
   cases hM with
   | map _ L hL=>
   unfold zX at he
   split at he
   ·rename_i es clock hg
    obtain⟨_,_,E,hO,hE⟩:=eM hs hL hg
    have hrun:(Extern.MapsClone.clone #[.iface t (.map (some L.B))]).run P w=.ok (.iface t (.map (some w.heap.size))) (w.alloc (.map E clock)):=by
     have hdef:Extern.MapsClone.clone #[.iface t (.map (some L.B))]=(do
       let .map entries clock ←getObj L.B | stuck "maps.clone: a map expected"
       pure (.iface t (.map (some (←newObj (.map entries clock)))))):=rfl
     rw [hdef]
     simp [ai hO (by simp)]
    have hval:ValOk P w0 ρ h w (Extern.MapsClone.clone #[.iface t (.map (some L.B))]) (h.alloc (.map es clock) (fun b h=>.val (.iface t (.map b)) h)):=
     fe hs (L:=⟨w.heap.size,0,0⟩) rfl (fun b hn=>⟨hs.new,E,rfl,hE.mono (Rho.sub_add hn)⟩)
      (fun b h' hn hsub hk hs'=>⟨_,_,_,hsub,hk,hs',.iface _ _ _ (.map b ⟨w.heap.size,0,0⟩ (Rho.add_same _ _ _)),hrun⟩)
    rw [he] at hval
    obtain⟨ρ',V,w',h1,h2,h3,h4,h5⟩:=hval
    rw [hrun] at h5
    cases h5
    exact⟨ρ',_,_,h1,h2,h3,h4,cC hf hb r1 r2 hrun⟩
   ·cases he
  ·cases he
 ·obtain⟨r1,r2⟩:=hrow _ rfl
  split at he
  ·rename_i l c b
   cases hlt:Nat.blt b 256 with
   | false=>rw [hlt] at he;cases he
   | true=>
    rw [hlt,cond_true,af] at he
    cases he
    obtain⟨X,Y,rfl,hx,hy⟩:=EZ hr
    cases hx;cases hy
    have hrun:=Lib.run_countString (P:=P) (strOf l c) (Int.ofNat b) w
    refine⟨ρ,_,w,Sub.refl _,Kept.refl _ _,hs,?_,cC hf hb r1 r2 hrun⟩
    have hd:(strOf l c).data.toList=ac l c:=rfl
    have hc:(Int.ofNat b).toNat.toUInt8=UInt8.ofNat b:=rfl
    rw [hd,hc,sI (cb hlt) l c 0,Nat.zero_add]
    exact .int _ _
  ·cases he
 ·cases he
omit [Hook] in
theorem Bj{f:List AV→Heap→Res}{vs:List AV}{h h':Heap}{m:String}{v:AV}(e:jM f vs h m=.val v h'):v≠.undef:=by
 rintro rfl
 unfold jM at e
 cases hk:jA vs with
 | none=>rw [hk] at e;cases e
 | some b=>
  rw [hk] at e
  have e:l0 f b vs h (b9 (h.get b)) m=.val .undef h':=e
  unfold l0 at e
  generalize b9 (h.get b)=ds at e
  cases hg:j3 (fun vs=>Di (f vs h)) b vs ds with
  | none=>rw [hg] at e;cases e
  | some rs=>
   rw [hg] at e
   have e:kZ b ds rs h=.val .undef h':=e
   cases rs with
   | nil=>cases e
   | cons v r=>
    have e:cond (isB v) (g8 b h (dN ds (v::r))) (.val (cond (iZ v r) v (zW v (.tab b ds (v::r)) (v::r))) h)=.val .undef h':=e
    cases hb:isB v with
    | true=>
     rw [hb] at e
     have e:g8 b h (dN ds (v::r))=.val .undef h':=e
     unfold g8 at e
     split at e<;>cases e
    | false=>
     rw [hb] at e
     have e:Res.val (cond (iZ v r) v (zW v (.tab b ds (v::r)) (v::r))) h=.val .undef h':=e
     injection e with e _
     cases ha:iZ v r with
     | true=>
      rw [ha] at e
      have e:v=.undef:=e
      subst e
      obtain⟨xs,hp⟩:=AY hg .undef (List.mem_cons_self ..)
      have:=(rI hp).2
      cases this
     | false=>
      rw [ha] at e
      have e:zW v (.tab b ds (v::r)) (v::r)=.undef:=e
      unfold zW at e
      split at e
      ·generalize Nat.ble 256 _=x1 at e
       generalize cO _ _=x2 at e
       cases x1<;>cases x2<;>cases e
      ·cases e
omit [Hook] in
theorem K0{P:Program}{fd:Func}{h:Heap}(vs:List AV):(∃ v,dO P 4 fd vs h=.val v h)∨∃ m,dO P 4 fd vs h=.bad m:=by
 have e:dO P 4 fd vs h=(match vs with
  | [.str l c,.int .u8 (.ofNat b)]=>cond (Nat.blt b 256) (ak (mh l b c 0) (fun n=>.val (Dj n) h)) (.bad "IndexByteString")
  | _=>.bad "IndexByteString"):=rfl
 rw [e]
 split
 ·rename_i l c b
  cases Nat.blt b 256 with
  | false=>exact .inr ⟨_,rfl⟩
  | true=>rw [cond_true,af];exact .inl ⟨_,rfl⟩
 ·exact .inr ⟨_,rfl⟩
omit [Hook] in
theorem yX{P:Program}{fd:Func}{h:Heap}(vs:List AV):Stay h (dO P 4 fd vs h):=by
 intro v h' e
 rcases K0 (P:=P) (fd:=fd) (h:=h) vs with ⟨x,hx⟩ | ⟨m,hx⟩
 ·rw [hx] at e;cases e;rfl
 ·rw [hx] at e;cases e
theorem cq{P:Program}(hR:RowsOk P):Ir P:=by
 intro f fd hf hb w0 ρ h w args A v h' hs hr he
 unfold I6 at he
 cases hx:dO P (eB f) fd args h with
 | val v2 h2=>
  rw [hx] at he
  have he:Res.val v2 h2=.val v h':=he
  cases he
  exact CE hR hf hb hs hr hx
 | bad m=>
  rw [hx] at he
  have he:cond (Nat.beq (eB f) 4) (jM (fun vs h=>dO P 4 fd vs h) args h m) (.bad m)=.val v h':=he
  cases h4:Nat.beq (eB f) 4 with
  | false=>rw [h4] at he;cases he
  | true=>
   rw [h4,cond_true] at he
   have hk:eB f=4:=Nat.eq_of_beq_eq_true h4
   have:=yI (P:=P) hs hr (s:=callFunc f ⟨A⟩) m (fun vs=>yX vs) (fun vs hvs=>(show NextOk P w0 ρ h w (callFunc f ⟨A⟩) (dO P 4 fd vs h) from by
    rcases K0 (P:=P) (fd:=fd) (h:=h) vs with ⟨x,hx⟩ | ⟨m,hx⟩
    ·have hv:=hx
     rw [←hk] at hv
     obtain⟨ρ',V,w',a,b,c,d,e⟩:=CE hR hf hb hs hvs hv
     rw [hx]
     exact⟨ρ',w',a,b,c,.inl ⟨V,d,e⟩⟩
    ·rw [hx];exact trivial))
   rw [he] at this
   obtain⟨ρ',w',a,b,c,d⟩:=this
   rcases d with ⟨V,d,e⟩ | ⟨rfl,_⟩
   ·exact⟨ρ',V,w',a,b,c,d,e⟩
   ·exact absurd rfl (Bj he)
 | _=>rw [hx] at he;cases he
end
end Go.VM
noncomputable section
namespace Go.VM
theorem zd{a b:Nat}(ha:a < 64)(hb:b < 64)(h:jy a=jy b):a=b:=by
 unfold jy at h
 injection h with h1 h2
 have e1:=D8.ofNat_inj _ _ (by omega) (by omega) h1
 have e2:=D8.ofNat_inj _ _ (by omega) (by omega) h2
 omega
def startT(laid:List (Nat × AObj)):Nat→RT AObj
 | 0=>.nil
 | n+1=>(startT laid n).set ((laid.lookup n).getD .dead) (jy n)
def Fr(laid:List (Nat × AObj))(n:Nat):Heap:=.mk (startT laid n) ⟨.d0,.d0,.d1,.d0,.d0⟩
def startRho(tot:Nat→Nat):Nat→Rho
 | 0=>fun _=>none
 | n+1=>(startRho tot n).add (jy n) ⟨n,0,tot n⟩
theorem aE{tot:Nat→Nat}:∀ {n:Nat} {b:Key} {L:Loc},startRho tot n b=some L→∃ g,g < n∧b=jy g∧L=⟨g,0,tot g⟩
 | 0,b,L,h=>by cases h
 | n+1,b,L,h=>by
  unfold startRho Rho.add at h
  split at h
  ·rename_i e;exact⟨n,by omega,e.symm,by simpa using h.symm⟩
  ·obtain⟨g,h1,h2⟩:=aE h;exact⟨g,by omega,h2⟩
theorem fP{tot:Nat→Nat}:∀ {n g:Nat},n≤64→g < n→startRho tot n (jy g)=some ⟨g,0,tot g⟩
 | 0,g,_,h=>by omega
 | n+1,g,h64,h=>by
  unfold startRho Rho.add
  by_cases e:jy n=jy g
  ·have:=zd (by omega) (by omega) e;subst this;simp
  ·rw [if_neg e]
   have:g≠n:=by intro e';subst e';exact e rfl
   exact fP (by omega) (by omega)
theorem eU{laid:List (Nat × AObj)}:∀ {n g:Nat},n≤64→g < n→(startT laid n).get (jy g)=some ((laid.lookup g).getD .dead)
 | 0,g,_,h=>by omega
 | n+1,g,h64,h=>by
  unfold startT
  by_cases e:g=n
  ·subst e;exact RT.get_set_same _ _ _
  ·rw [RT.get_set_other _ _ _ _ (fun e'=>e (zd (by omega) (by omega) e').symm)]
   exact eU (by omega) (by omega)
theorem kF{w:World}{n:Nat}{laid:List (Nat × AObj)}{tot:Nat→Nat}(h64:n≤64)(hn:n≤w.heap.size)(hl:∀ g o,g < n→laid.lookup g=some o→∀ ρ,ObjRel (fun k=>k < w.heap.size) ρ ⟨g,0,tot g⟩ w.heap[g]? o):Sim (Base.at w (startRho tot n)) (startRho tot n) (Fr laid n) w:=by
 refine⟨rfl,rfl,Nat.le_refl _,fun _ _=>rfl,Sub.refl _,?_,?_⟩
 ·intro b L e
  obtain⟨g,hg,rfl,rfl⟩:=aE e
  refine⟨_,eU h64 hg,by show g < _;omega,?_⟩
  cases hx:laid.lookup g with
  | none=>exact trivial
  | some o=>exact hl g o hg hx _
 ·intro b b' L L' o o' e e' _ _ _ _ hB
  obtain⟨g,hg,rfl,rfl⟩:=aE e
  obtain⟨g',hg',rfl,rfl⟩:=aE e'
  have:g=g':=hB
  rw [this]
theorem iB{P:Program}{tot:Nat→Nat}(h64:P.globals.size≤64):Glob P (startRho tot P.globals.size):=fun _g hg=>⟨_,fP h64 hg,rfl,rfl⟩
section
variable [Hook]
def startSt(P:Program)(laid:List (Nat × AObj))(f:Nat)(args:List AV):St:=match bodyOf P f with
 | some c=>enter P f args .normal [] (Fr laid P.globals.size) c
 | none=>.bad "no body"
def LaidOk(P:Program)(laid:List (Nat × AObj))(tot:Nat→Nat)(w:World):Prop:=P.globals.size≤w.heap.size∧∀ g o,g < P.globals.size→laid.lookup g=some o→∀ N ρ,ObjRel N ρ ⟨g,0,tot g⟩ w.heap[g]? o
theorem ze{P:Program}(hR:RowsOk P)(hF:P.follows .mixedOrders=true)(h64:P.globals.size≤64){laid:List (Nat × AObj)}{tot:Nat→Nat}{f:Nat}{args:List AV}{A:List Value}{w:World}(hS:SumOk P (Base.at w (startRho tot P.globals.size))){n:Nat}{post:AV→Heap→Bool}(hw:LaidOk P laid tot w)
  (hr:RelL (startRho tot P.globals.size) args A) (hrun:jR P post n (startSt P laid f args)=true):
  Calls P f ⟨A⟩ w (fun e w'=>∃ ρ' v V h',e=.returned V∧Rel ρ' v V∧Sim (Base.at w (startRho tot P.globals.size)) ρ' h' w'∧Glob P ρ'∧post v h'=true):=by
 unfold startSt at hrun
 cases hb:bodyOf P f with
 | none=>rw [hb] at hrun;cases n<;>cases hrun
 | some c=>rw [hb] at hrun;exact cU ⟨⟩ ⟨cq hR,hS⟩ hF (kF h64 hw.1 (fun g o hg hl ρ=>hw.2 g o hg hl _ ρ)) (iB h64) hr hb hrun
omit [Hook] in
theorem Sim.std{w w':World}{ρ0 ρ:Rho}{h:Heap}(hs:Sim (Base.at w ρ0) ρ h w'):Sim (Base.std w) ρ h w':=⟨hs.os,hs.out,hs.size,hs.old,(fun _ _ e=>nomatch e),hs.obj,hs.inj⟩
omit [Hook] in
structure Base.Keeps (P:Program) (laid:List (Nat × AObj)) (tot:Nat→Nat) (b:Base):Prop where
 laid:LaidOk P laid tot b.w
 glob:∀ g,g < P.globals.size→b.F g
 names:Sub (startRho tot P.globals.size) b.rho
omit [Hook] in
theorem Base.Keeps.of_at{P:Program}{laid:List (Nat × AObj)}{tot:Nat→Nat}{w:World}(h:LaidOk P laid tot w):(Base.at w (startRho tot P.globals.size)).Keeps P laid tot:=
 ⟨h,fun _ hg=>Nat.lt_of_lt_of_le hg h.1,Sub.refl _⟩
omit [Hook] in
theorem Base.Keeps.world{P:Program}{laid:List (Nat × AObj)}{tot:Nat→Nat}{b:Base}{w:World}(h:b.Keeps P laid tot)(hs:b.w.heap.size≤w.heap.size)(ho:∀ k,b.F k→w.heap[k]?=b.w.heap[k]?):LaidOk P laid tot w:=
 ⟨Nat.le_trans h.laid.1 hs,fun g o hg hl N ρ=>by rw [ho g (h.glob g hg)];exact h.laid.2 g o hg hl N ρ⟩
end
def isTrue(v:AV)(_:Heap):Bool:=match v with | .bool b=>b | _=>false
theorem sN{ρ:Rho}{v:AV}{V:Value}{h:Heap}(hr:Rel ρ v V)(ht:isTrue v h=true):V=.bool true:=by
 cases hr with
 | bool b=>have:b=true:=ht
           rw [this]
 | _=>cases ht
end Go.VM
end
noncomputable section
namespace Go.VM
theorem sP:∀ (s sub:List UInt8),s.length < sub.length→Lib.index s sub=-1
 | [],sub,h=>by
  unfold Lib.index
  cases sub with
  | nil=>simp at h
  | cons=>simp
 | b::l,sub,h=>by
  unfold Lib.index
  have hp:sub.isPrefixOf (b::l)=false:=by
   rw [Bool.eq_false_iff]
   intro hp
   have:=(List.isPrefixOf_iff_prefix.1 hp).length_le
   omega
  rw [hp,sP l sub (by simp at h;omega)]
  simp
theorem zf{n sl sc k:Nat}(hs:sc < 256 ^ sl)(hle:sl≤n):(ac sl sc).isPrefixOf (ac n k)=Nat.beq (Nat.mod k (2 ^ (8 * sl))) sc:=by
 have e2:=gf sl (n - sl) k
 rw [show sl+(n - sl)=n by omega] at e2
 have hpow:(2:Nat) ^ (8 * sl)=256 ^ sl:=by rw [Nat.pow_mul]
 have hmod:Nat.mod k (2 ^ (8 * sl))=k % 256 ^ sl:=by rw [hpow];rfl
 rw [hmod,Bool.eq_iff_iff,List.isPrefixOf_iff_prefix,List.prefix_iff_eq_take,aD,e2]
 constructor
 ·intro h
  rw [ia sl _ _ hs (Nat.mod_lt _ (Nat.pow_pos (by decide))) h];simp
 ·intro h;rw [Nat.eq_of_beq_eq_true h]
theorem sQ{sl sc:Nat}(hs:sc < 256 ^ sl):∀ (n k i:Nat),(lB n sl sc k i=0∧Lib.index (ac n k) (ac sl sc)=-1)∨(∃ j:Nat,lB n sl sc k i=i+j+1∧Lib.index (ac n k) (ac sl sc)=j)
 | 0,k,i=>by
  unfold lB
  cases sl with
  | zero=>right;exact⟨0,rfl,rfl⟩
  | succ sl=>left;exact⟨rfl,rfl⟩
 | n+1,k,i=>by
  unfold lB
  cases hb:Nat.blt (n+1) sl with
  | true=>
   left
   exact⟨rfl,sP _ _ (by rw [aD,aD];exact cb hb)⟩
  | false=>
   have hle:sl≤n+1:=by
    rcases Nat.lt_or_ge (n+1) sl with h | h
    ·rw [←Nat.blt_eq] at h;rw [hb] at h;cases h
    ·exact h
   have hp:=zf (n:=n+1) (k:=k) hs hle
   have hidx:Lib.index (ac (n+1) k) (ac sl sc)=if (ac sl sc).isPrefixOf (ac (n+1) k) then 0 else if Lib.index (ac n (k / 256)) (ac sl sc) == -1 then -1 else Lib.index (ac n (k / 256)) (ac sl sc)+1:=rfl
   rw [hidx,hp]
   cases hq:Nat.beq (Nat.mod k (2 ^ (8 * sl))) sc with
   | true=>right;exact⟨0,rfl,rfl⟩
   | false=>
    rcases sQ hs n (k / 256) (i+1) with ⟨h1,h2⟩ | ⟨j,h1,h2⟩
    ·left;rw [h2];exact⟨h1,rfl⟩
    ·right
     refine⟨j+1,?_,?_⟩
     ·show lB n sl sc (k / 256) (i+1)=_;rw [h1];omega
     ·rw [h2]
      have:((j:Int) == -1)=false:=by rw [beq_eq_false_iff_ne];omega
      simp [this]
def dh:List AV→Bool
 | []=>true
 | v::r=>cond v.plain (dh r) false
theorem Eo{x y:AV}(h:gt x y=true):x=y:=by
 unfold gt at h
 split at h
 ·simp only [Bool.and_eq_true] at h
  rw [Nat.eq_of_beq_eq_true h.1,Nat.eq_of_beq_eq_true h.2]
 ·simp only [Bool.and_eq_true] at h
  rw [ap h.1,(aX _ _).1 h.2]
 ·rfl
 ·rfl
 ·cases h
theorem vO:∀ {x y:List AV},iQ x y=true→x=y
 | [],[],_=>rfl
 | a::x,b::y,h=>by
  unfold iQ at h
  cases hb:gt a b with
  | false=>rw [hb] at h;cases h
  | true=>rw [hb] at h;rw [Eo hb,vO h]
 | [],_::_,h=>by cases h
 | _::_,[],h=>by cases h
theorem Rel.of_plain{ρ ρ':Rho}{v:AV}{V:Value}(hp:v.plain=true)(h:Rel ρ v V):Rel ρ' v V:=by
 cases h with
 | bool b=>exact .bool b
 | int k n=>exact .int k n
 | str l c hc=>exact .str l c hc
 | _=>cases hp
theorem RelL.of_plain{ρ ρ':Rho}:∀ {a:List AV} {A:List Value},dh a=true→RelL ρ a A→RelL ρ' a A
 | [],_,_,h=>by cases h;exact .nil
 | v::r,_,hp,h=>by
  cases h with
  | cons _ V _ R hv hr=>
   unfold dh at hp
   cases hb:v.plain with
   | false=>rw [hb] at hp;cases hp
   | true=>rw [hb] at hp;exact .cons v V r R (hv.of_plain hb) (RelL.of_plain hp hr)
theorem eA{args:List AV}{r:Row}:∀ {t:List Row},c8 args t=some r→r ∈ t∧r.args=args
 | [],h=>by cases h
 | p::t,h=>by
  unfold c8 at h
  cases hb:iQ p.args args with
  | false=>rw [hb] at h;exact⟨List.mem_cons_of_mem _ (eA h).1,(eA h).2⟩
  | true=>
   rw [hb] at h
   have h:some p=some r:=h
   injection h with h
   subst h
   exact⟨List.mem_cons_self ..,vO hb⟩
def bn:List (Key × AObj)→Key→Bool
 | [],_=>false
 | p::r,b=>cond (Key.same p.1 b) true (bn r b)
def cu(f:AV→Bool):List AV→Bool
 | []=>true
 | v::r=>cond (f v) (cu f r) false
def e9(S:Key→Bool):Nat→AV→Bool
 | 0,_=>false
 | d+1,v=>match v with
  | .bool _=>true
  | .int _ _=>true
  | .float _ _=>true
  | .str _ _=>true
  | .nilPtr=>true
  | .nilSlice=>true
  | .emptyS=>true
  | .nilMap=>true
  | .nilFunc=>true
  | .nilIface=>true
  | .undef=>true
  | .junk=>true
  | .ustr _=>true
  | .rng _ _=>true
  | .ptr b _=>S b
  | .slice b _ _ _=>S b
  | .map b=>S b
  | .func (.func _) a b=>cond (cu (e9 S d) a) (cu (e9 S d) b) false
  | .iface _ v=>e9 S d v
  | .agg cs=>cu (e9 S d) cs
  | .tup cs=>cu (e9 S d) cs
  | .tab b _ _=>S b
  | _=>false
def dy(S:Key→Bool):List (AV × AV × Nat)→Bool
 | []=>true
 | e::r=>cond (e9 S 20 e.1) (cond (e9 S 20 e.2.1) (dy S r) false) false
def fh(S:Key→Bool):List (AV × AV)→Bool
 | []=>true
 | e::r=>cond (e9 S 20 e.1) (cond (e9 S 20 e.2) (fh S r) false) false
def wS(S:Key→Bool):List (List (AV × AV × Nat) × Nat)→Bool
 | []=>true
 | v::r=>cond (dy S v.1) (wS S r) false
def lq(S:Key→Bool)(o:AObj):Bool:=match o with
 | .cells _ cs _ _=>cu (e9 S 20) cs
 | .map es _=>dy S es
 | .lmap es=>fh S es
 | .mapAlt vs=>wS S vs
 | .bytes _ _=>true
 | .bits _ _ _=>true
 | .pack _ _ _=>true
 | .dead=>true
 | .dom _=>true
 | _=>false
section
variable {ρ ρ':Rho} {S:Key→Bool}
theorem ad{a b:Bool}(h:cond a b false=true):a=true∧b=true:=by cases a<;>cases b<;>first | exact⟨rfl,rfl⟩ | cases h
theorem RelL.withinF{f:AV→Bool}(hf:∀ v V,f v=true→Rel ρ v V→Rel ρ' v V):∀ {a:List AV} {A:List Value},cu f a=true→RelL ρ a A→RelL ρ' a A
 | [],_,_,h=>by cases h;exact .nil
 | v::r,_,hp,h=>by
  cases h with
  | cons _ V _ R hv hr=>
   unfold cu at hp
   obtain⟨h1,h2⟩:=ad hp
   exact .cons v V r R (hf v V h1 hv) (RelL.withinF hf h2 hr)
theorem Rel.within(hS:∀ b L,S b=true→ρ b=some L→ρ' b=some L):∀ (d:Nat) (v:AV) (V:Value),e9 S d v=true→Rel ρ v V→Rel ρ' v V
 | 0,v,V,h,_=>by cases h
 | d+1,v,V,h,hr=>by
  have ih:=Rel.within hS d
  cases hr with
  | bool b=>exact .bool b
  | int k n=>exact .int k n
  | float k b=>exact .float k b
  | str l c hc=>exact .str l c hc
  | nilPtr=>exact .nilPtr
  | ptr b o L e=>exact .ptr b o L (hS b L h e)
  | nilSlice=>exact .nilSlice
  | emptyS a c=>exact .emptyS a c
  | sliceIs b o l c L e=>exact .sliceIs b o l c L (hS b L h e)
  | sliceMore b o l c sz L e hc ht=>exact .sliceMore b o l c sz L (hS b L h e) hc ht
  | nilMap=>exact .nilMap
  | map b L e=>exact .map b L (hS b L h e)
  | func f a b A B ha hb=>
   obtain⟨h1,h2⟩:=ad (show cond (cu (e9 S d) a) (cu (e9 S d) b) false=true from h)
   exact .func f a b A B (RelL.withinF ih h1 ha) (RelL.withinF ih h2 hb)
  | yield l L e=>cases h
  | nilFunc=>exact .nilFunc
  | iface t v V hv=>exact .iface t v V (ih v V h hv)
  | nilIface=>exact .nilIface
  | agg a A ha=>exact .agg a A (RelL.withinF ih h ha)
  | tup a A ha=>exact .tup a A (RelL.withinF ih h ha)
  | undef=>exact .undef
  | junk V=>exact .junk V
  | red k m c j n e=>cases h
  | reds k m c b L n e e'=>cases h
  | ofs k b o L n e e2=>cases h
  | sliceG a b L M c e e2=>cases h
  | nan b hb=>cases h
  | rng lo hi n h1 h2=>exact .rng lo hi n h1 h2
  | byte b=>cases h
  | tab b ds vs L V e e' hr=>exact .tab b ds vs L V (hS b L h e) e' (hr.of_plain e')
  | ustr l s hl=>exact .ustr l s hl
theorem ERel.within(hS:∀ b L,S b=true→ρ b=some L→ρ' b=some L):∀ {a:List (AV × AV × Nat)} {A:List MapEntry},dy S a=true→ERel ρ a A→ERel ρ' a A
 | [],_,_,h=>by cases h;exact .nil
 | (k,v,c)::r,_,hp,h=>by
  cases h with
  | cons _ _ K V _ _ R hk hv hr=>
   unfold dy at hp
   obtain⟨h1,h2⟩:=ad hp
   obtain⟨h2,h3⟩:=ad h2
   exact .cons k v K V c r R (Rel.within hS 20 k K h1 hk) (Rel.within hS 20 v V h2 hv) (ERel.within hS h3 hr)
theorem n8{S:Key→Bool}:∀ {es':List (AV × AV × Nat)},(∀ e ∈ es',e9 S 20 e.1=true∧e9 S 20 e.2.1=true)→dy S es'=true
 | [],_=>rfl
 | e::r,h=>by
  unfold dy
  obtain⟨h1,h2⟩:=h e (List.mem_cons_self ..)
  rw [h1,h2,n8 fun x hx=>h x (List.mem_cons_of_mem _ hx)]
  rfl
theorem je{S:Key→Bool}:∀ {es:List (AV × AV)},fh S es=true→∀ e ∈ es,e9 S 20 e.1=true∧e9 S 20 e.2=true
 | [],_,e,he=>by cases he
 | x::r,h,e,he=>by
  unfold fh at h
  obtain⟨h1,h⟩:=ad h
  obtain⟨h2,h3⟩:=ad h
  cases he with
  | head=>exact⟨h1,h2⟩
  | tail _ he=>exact je h3 e he
theorem sR{S:Key→Bool}:∀ {vs:List (List (AV × AV × Nat) × Nat)},wS S vs=true→∀ v ∈ vs,dy S v.1=true
 | [],_,v,hv=>by cases hv
 | x::r,h,v,hv=>by
  unfold wS at h
  obtain⟨h1,h2⟩:=ad h
  cases hv with
  | head=>exact h1
  | tail _ hv=>exact sR h2 v hv
theorem LRel.within{ρ ρ':Rho}{S:Key→Bool}(hS:∀ b L,S b=true→ρ b=some L→ρ' b=some L){a:List (AV × AV)}{A:List MapEntry}(hi:fh S a=true)(h:LRel ρ a A):LRel ρ' a A:=by
 obtain⟨es,hp,he⟩:=h
 refine⟨es,hp,ERel.within hS (n8 fun e hm=>?_) he⟩
 exact je hi (e.1,e.2.1) (hp.mem_iff.1 (List.mem_map.2 ⟨e,hm,rfl⟩))
theorem jf{ρ ρ':Rho}:∀ {n c:Nat} {V:List Value},RelL ρ (bG n c) V→RelL ρ' (bG n c) V
 | 0,_,_,h=>by cases h;exact .nil
 | n+1,c,_,h=>by
  cases h with
  | cons _ V _ R hv hr=>cases hv;exact .cons _ _ _ _ (.bool _) (jf hr)
theorem sS{ρ ρ':Rho}:∀ {n c:Nat} {V:List Value},RelL ρ (az n c) V→RelL ρ' (az n c) V
 | 0,_,_,h=>by cases h;exact .nil
 | n+1,c,_,h=>by
  cases h with
  | cons _ V _ R hv hr=>cases hv;exact .cons _ _ _ _ (.int _ _) (sS hr)
theorem Fs{ρ ρ':Rho}{b:List AV}(hb:∀ V,RelL ρ b V→RelL ρ' b V):∀ {a:List AV} {V:List Value},(∀ V,RelL ρ a V→RelL ρ' a V)→RelL ρ (cat a b) V→RelL ρ' (cat a b) V:=by
 intro a V ha h
 rw [aL] at h ⊢
 have split:∀ (a:List AV) (V:List Value),RelL ρ (a++b) V→∃ A B,V=A++B∧RelL ρ a A∧RelL ρ b B:=by
  intro a
  induction a with
  | nil=>exact fun V h=>⟨[],V,rfl,.nil,h⟩
  | cons x r ih=>
   intro V h
   cases h with
   | cons _ X _ R hx hr=>
    obtain⟨A,B,e,h1,h2⟩:=ih R hr
    exact⟨X::A,B,by rw [e];rfl,.cons _ _ _ _ hx h1,h2⟩
 have join:∀ (a:List AV) (A B:List Value),RelL ρ' a A→RelL ρ' b B→RelL ρ' (a++b) (A++B):=by
  intro a
  induction a with
  | nil=>intro A B h1 h2;cases h1;exact h2
  | cons x r ih=>
   intro A B h1 h2
   cases h1 with
   | cons _ X _ R hx hr=>exact .cons _ _ _ _ hx (ih R B hr h2)
 obtain⟨A,B,e,h1,h2⟩:=split a V h
 rw [e]
 exact join a A B (ha A h1) (hb B h2)
theorem di{ρ ρ':Rho}{t:RT Nat}:∀ {k:Nat} {V:List Value},RelL ρ (ag t k) V→RelL ρ' (ag t k) V
 | 0,_,h=>by cases h;exact .nil
 | k+1,V,h=>by
  rw [ag] at h ⊢
  exact Fs (fun _=>sS) (fun _=>di) h
theorem ObjRel.within{N N':Nat→Prop}(hN:∀ k,N' k→N k){L:Loc}{O:Option Obj}(hS:∀ b L,S b=true→ρ b=some L→ρ' b=some L){o:AObj}(ho:lq S o=true)(h:ObjRel N ρ L O o):ObjRel N' ρ' L O o∧(o.live=true→¬ N L.B):=by
 cases o with
 | cells e cs opn fz=>
  obtain⟨a,C,q,e1,f1,g1,h1,i1,j1⟩:=h
  exact⟨⟨fun e=>a (hN _ e),C,q,e1,f1,g1,⟨h1.1,RelL.withinF (Rel.within hS 20) ho h1.2⟩,i1,j1⟩,fun _=>a⟩
 | map es clock=>
  obtain⟨a,E,e1,h1⟩:=h
  exact⟨⟨fun e=>a (hN _ e),E,e1,ERel.within hS ho h1⟩,fun _=>a⟩
 | lmap es=>
  obtain⟨a,E,c,e1,h1,h2⟩:=h
  exact⟨⟨fun e=>a (hN _ e),E,c,e1,h1.within hS ho,h2⟩,fun _=>a⟩
 | mapAlt vs=>
  obtain⟨a,v,hv,E,e1,h1⟩:=h
  exact⟨⟨fun e=>a (hN _ e),v,hv,E,e1,ERel.within hS (sR ho v hv) h1⟩,fun _=>a⟩
 | bits e n c=>
  obtain⟨a,C,q,e1,f1,g1,h1,i1,j1⟩:=h
  exact⟨⟨fun e=>a (hN _ e),C,q,e1,f1,g1,⟨h1.1,jf h1.2⟩,i1,j1⟩,fun _=>a⟩
 | pack e n c=>
  obtain⟨a,C,q,e1,f1,g1,h1,i1,j1⟩:=h
  exact⟨⟨fun e=>a (hN _ e),C,q,e1,f1,g1,⟨h1.1,di h1.2⟩,i1,j1⟩,fun _=>a⟩
 | bytes e n=>
  obtain⟨a,b,c,zs,e1,e2⟩:=h
  exact⟨⟨fun e=>a (hN _ e),b,c,zs,e1,e2⟩,fun _=>a⟩
 | dead=>exact⟨trivial,fun h=>by cases h⟩
 | dom ds=>exact⟨h,fun h=>by cases h⟩
 | _=>cases ho
end
theorem lR:∀ {objs:List (Key × AObj)} {b:Key},bn objs b=true→∃ p,p ∈ objs∧p.1=b
 | [],b,h=>by cases h
 | p::r,b,h=>by
  unfold bn at h
  cases hb:Key.same p.1 b with
  | true=>exact⟨p,List.mem_cons_self ..,(Key.same_iff _ _).1 hb⟩
  | false=>
   rw [hb] at h
   obtain⟨q,hq,e⟩:=lR h
   exact⟨q,List.mem_cons_of_mem _ hq,e⟩
theorem Ep{objs:List (Key × AObj)}:∀ {p:Key × AObj},p ∈ objs→bn objs p.1=true:=by
 induction objs with
 | nil=>intro p h;cases h
 | cons q r ih=>
  intro p h
  unfold bn
  cases hb:Key.same q.1 p.1 with
  | true=>rfl
  | false=>
   cases h with
   | head=>rw [(Key.same_iff _ _).2 rfl] at hb;cases hb
   | tail _ h=>exact ih h
theorem dz:∀ {objs:List (Key × AObj)} {h:Heap} {b:Key},bn objs b=false→(bp objs h).get b=h.get b
 | [],h,b,_=>rfl
 | p::r,h,b,hb=>by
  unfold bn at hb
  cases hs:Key.same p.1 b with
  | true=>rw [hs] at hb;cases hb
  | false=>
   rw [hs] at hb
   show (bp r (h.put p.1 p.2)).get b=_
   rw [dz hb,Heap.get_put_other]
   intro e;rw [(Key.same_iff _ _).2 e] at hs;cases hs
theorem sU:∀ {objs:List (Key × AObj)} {h:Heap} {b:Key},bn objs b=true→∃ p,p ∈ objs∧p.1=b∧(bp objs h).get b=some p.2
 | [],h,b,hb=>by cases hb
 | p::r,h,b,hb=>by
  cases hr:bn r b with
  | true=>
   obtain⟨q,hq,e,g⟩:=sU (h:=h.put p.1 p.2) hr
   exact⟨q,List.mem_cons_of_mem _ hq,e,g⟩
  | false=>
   unfold bn at hb
   cases hs:Key.same p.1 b with
   | false=>rw [hs] at hb;rw [hr] at hb;cases hb
   | true=>
    have e:=(Key.same_iff _ _).1 hs
    refine⟨p,List.mem_cons_self ..,e,?_⟩
    show (bp r (h.put p.1 p.2)).get b=_
    rw [dz hr,←e,Heap.get_put_same]
theorem n9{h:Heap}:∀ {objs:List (Key × AObj)},eP h objs=true→∀ p ∈ objs,h.get p.1=none
 | [],_,p,hp=>by cases hp
 | q::r,hf,p,hp=>by
  unfold eP at hf
  split at hf
  ·cases hf
  ·rename_i hg
   cases hp with
   | head=>exact hg
   | tail _ hp=>exact n9 hf p hp
def fi(objs:List (Key × AObj))(ρ ρ1:Rho):Rho:=fun b=>match bn objs b with
 | true=>ρ1 b
 | false=>ρ b
theorem ed{objs:List (Key × AObj)}{ρ ρ1:Rho}{b:Key}(h:bn objs b=true):fi objs ρ ρ1 b=ρ1 b:=by unfold fi;rw [h]
theorem ee{objs:List (Key × AObj)}{ρ ρ1:Rho}{b:Key}(h:bn objs b=false):fi objs ρ ρ1 b=ρ b:=by unfold fi;rw [h]
theorem Sim.frame{w0:Base}{w w':World}{ρ ρ1:Rho}{h h1:Heap}{objs:List (Key × AObj)}(hs:Sim w0 ρ h w)(h1s:Sim (Base.std w) ρ1 h1 w')(hobj:∀ p ∈ objs,h1.get p.1=some p.2)(hfree:∀ p ∈ objs,h.get p.1=none)(hin:∀ p ∈ objs,lq (bn objs) p.2=true):
  Sim w0 (fi objs ρ ρ1) (bp objs h) w'∧Sub ρ (fi objs ρ ρ1)∧Kept ρ h (fi objs ρ ρ1) (bp objs h):=by
 have hn:∀ b,bn objs b=true→ρ b=none:=fun b hb=>by
  obtain⟨p,hp,rfl⟩:=lR hb
  exact hs.none_of_get (hfree p hp)
 have hsub:Sub ρ (fi objs ρ ρ1):=fun b L e=>by
  cases hb:bn objs b with
  | true=>rw [hn b hb] at e;cases e
  | false=>rw [ee hb];exact e
 have hS:∀ b L,bn objs b=true→ρ1 b=some L→fi objs ρ ρ1 b=some L:=fun b L hb e=>by rw [ed hb];exact e
 -- of the new ones
 have hnew:∀ b L,bn objs b=true→ρ1 b=some L→∃ o,(bp objs h).get b=some o∧h1.get b=some o∧L.B < w'.heap.size∧ObjRel w0.F (fi objs ρ ρ1) L w'.heap[L.B]? o∧(o.live=true→w.heap.size≤L.B):=fun b L hb e=>by
  obtain⟨p,hp,rfl,hg⟩:=sU (h:=h) hb
  obtain⟨o,g1,hlt,hr⟩:=h1s.obj p.1 L e
  rw [hobj p hp] at g1
  injection g1 with g1
  subst g1
  obtain⟨hr',hle⟩:=ObjRel.within (N':=w0.F) (fun k e=>(Nat.lt_of_lt_of_le (w0.lt k e) hs.size:k < w.heap.size)) hS (hin p hp) hr
  exact⟨p.2,hg,hobj p hp,hlt,hr',fun l=>Nat.le_of_not_lt (hle l)⟩
 refine⟨⟨h1s.os.trans hs.os,h1s.out.trans hs.out,Nat.le_trans hs.size h1s.size,fun k hk=>?_,hs.sub.trans hsub,fun b L e=>?_,?_⟩,hsub,fun k o g e=>?_⟩
 ·rw [h1s.old k (Nat.lt_of_lt_of_le (w0.lt k hk) hs.size)];exact hs.old k hk
 ·cases hb:bn objs b with
  | true=>
   rw [ed hb] at e
   obtain⟨o,g,_,hlt,hr,_⟩:=hnew b L hb e
   exact⟨o,g,hlt,hr⟩
  | false=>
   rw [ee hb] at e
   obtain⟨o,g,hlt,hr⟩:=hs.obj b L e
   refine⟨o,by rw [dz hb];exact g,Nat.lt_of_lt_of_le hlt h1s.size,?_⟩
   rw [h1s.old _ hlt]
   exact hr.mono hsub
 ·intro b b' L L' o o' e e' g g' l l' hB
  cases hb:bn objs b with
  | true=>
   rw [ed hb] at e
   obtain⟨o1,gg,g1,_,_,hle⟩:=hnew b L hb e
   rw [g] at gg;injection gg with gg;subst gg
   cases hb':bn objs b' with
   | true=>
    rw [ed hb'] at e'
    obtain⟨o2,gg',g2,_,_,_⟩:=hnew b' L' hb' e'
    rw [g'] at gg';injection gg' with gg';subst gg'
    exact h1s.inj b b' L L' o o' e e' g1 g2 l l' hB
   | false=>
    rw [ee hb'] at e'
    obtain⟨_,_,hlt,_⟩:=hs.obj b' L' e'
    have:=hle l
    omega
  | false=>
   rw [ee hb] at e
   obtain⟨_,_,hlt,_⟩:=hs.obj b L e
   cases hb':bn objs b' with
   | true=>
    rw [ed hb'] at e'
    obtain⟨o2,gg',_,_,_,hle⟩:=hnew b' L' hb' e'
    rw [g'] at gg';injection gg' with gg';subst gg'
    have:=hle l'
    omega
   | false=>
    rw [ee hb'] at e'
    rw [dz hb] at g
    rw [dz hb'] at g'
    exact hs.inj b b' L L' o o' e e' g g' l l' hB
 ·have hb:bn objs k=false:=by
   cases hb:bn objs k with
   | false=>rfl
   | true=>obtain⟨p,hp,rfl⟩:=lR hb;rw [hfree p hp] at g;cases g
  exact⟨by rw [ee hb];exact e,by rw [dz hb];exact g⟩
def wU(S:Key→Bool):List (Key × AObj)→Bool
 | []=>true
 | p::r=>cond (lq S p.2) (wU S r) false
theorem q7{S:Key→Bool}:∀ {objs:List (Key × AObj)},wU S objs=true→∀ p ∈ objs,lq S p.2=true
 | [],_,p,hp=>by cases hp
 | q::r,h,p,hp=>by
  unfold wU at h
  obtain⟨h1,h2⟩:=ad h
  cases hp with
  | head=>exact h1
  | tail _ hp=>exact q7 h2 p hp
def Row.ok(r:Row):Bool:=cond (dh r.args) (cond (e9 (bn r.objs) 20 r.val) (wU (bn r.objs) r.objs) false) false
section
variable [H:Hook]
structure Grew (w w':World):Prop where
 os:w'.os=w.os
 out:w'.output=w.output
 size:w.heap.size≤w'.heap.size
 old:∀ k,k < w.heap.size→w'.heap[k]?=w.heap[k]?
omit H in
theorem Sim.grew{w0:Base}{w w':World}{ρ:Rho}{h:Heap}(hs:Sim w0 ρ h w)(hg:Grew w w'):Sim w0 ρ h w':=
 ⟨hg.os.trans hs.os,hg.out.trans hs.out,Nat.le_trans hs.size hg.size,fun k hk=>(hg.old k (Nat.lt_of_lt_of_le (w0.lt k hk) hs.size)).trans (hs.old k hk),hs.sub,
  fun b L e=>let ⟨o,a,hlt,r⟩:=hs.obj b L e;⟨o,a,Nat.lt_of_lt_of_le hlt hg.size,by rw [hg.old _ hlt];exact r⟩,hs.inj⟩
omit H in
theorem Grew.of_sim{w w':World}{ρ:Rho}{h:Heap}(hs:Sim (Base.std w) ρ h w'):Grew w w':=⟨hs.os,hs.out,hs.size,hs.old⟩
def PrimOk(P:Program)(w0:Base)(f:Nat)(p:List AV→Heap→Option (AV × Heap)):Prop:=∀ (ρ:Rho) (h:Heap) (w:World) (args:List AV) (A:List Value) (v:AV) (h':Heap),Sim w0 ρ h w→RelL ρ args A→p args h=some (v,h')→
 Calls P f ⟨A⟩ w fun e w'=>∃ ρ' V,e=.returned V∧Sub ρ ρ'∧Kept ρ h ρ' h'∧Rel ρ' v V∧Sim w0 ρ' h' w'
omit H in
theorem PrimOk.none{P:Program}{w0:Base}{f k:Nat}:PrimOk P w0 f (noPrim k):=fun _ _ _ _ _ _ _ _ _ he=>by cases he
structure Sums (P:Program) (w0:Base):Prop where
 enters:∀ f,bJ f≠0→∃ c,bodyOf P f=some c
 index:∀ f,bJ f=1→∀ (s sub:ByteArray) (w:World),w0.w.heap.size≤w.heap.size→(∀ k,w0.F k→w.heap[k]?=w0.w.heap[k]?)→s.size < 4294967281→Calls P f #[.string s,.string sub] w fun e w'=>e=.returned (.int .i64 (Lib.index s.data.toList sub.data.toList))∧w'=w
 contains:∀ f,bJ f=2→∀ (s sub:ByteArray) (w:World),w0.w.heap.size≤w.heap.size→(∀ k,w0.F k→w.heap[k]?=w0.w.heap[k]?)→s.size < 4294967281→Calls P f #[.string s,.string sub] w fun e w'=>e=.returned (.bool (Lib.contains s.data.toList sub.data.toList))∧w'=w
 truth:∀ f,bJ f=3→∀ (w:World),w0.w.heap.size≤w.heap.size→(∀ k,w0.F k→w.heap[k]?=w0.w.heap[k]?)→Calls P f #[] w fun e w'=>e=.returned (.bool true)∧Grew w w'
 memo:∀ f k,bJ f=k+4→∀ a r,r ∈ H.tab k a→r.ok=true∧∀ (ρ:Rho) (A:List Value) (w:World),RelL ρ r.args A→w0.w.heap.size≤w.heap.size→(∀ k,w0.F k→w.heap[k]?=w0.w.heap[k]?)→Calls P f ⟨A⟩ w fun e w'=>∃ ρ1 h1 V,e=.returned V∧Rel ρ1 r.val V∧Sim (Base.std w) ρ1 h1 w'∧∀ p ∈ r.objs,h1.get p.1=some p.2
 prim:∀ f k,bJ f=k+4→PrimOk P w0 f (H.prim k)
omit H in
theorem Bp{vf:Nat→AV}{args:List AV}{h:Heap}{v:AV}{h':Heap}(he:zY vf args h=some (v,h')):∃ l c sl sc,args=[.str l c,.str sl sc]∧l≤1000000∧v=vf (lB l sl sc c 0)∧h'=h:=by
 unfold zY at he
 split at he
 ·rename_i l c sl sc
  cases hb:Nat.ble l 1000000 with
  | false=>rw [hb] at he;cases he
  | true=>
   rw [hb,cond_true,af] at he
   have he:some (vf (lB l sl sc c 0),h)=some (v,h'):=he
   injection he with he
   injection he with h1 h2
   exact⟨l,c,sl,sc,rfl,Nat.le_of_ble_eq_true hb,h1.symm,h2.symm⟩
 ·cases he
theorem sumOk_of{P:Program}{w0:Base}(hS:Sums P w0):SumOk P w0:=by
 intro f ρ h w args A v h' hs hr he
 have key:∀ vf,zY vf args h=some (v,h')→∃ l c sl sc,args=[.str l c,.str sl sc]∧A=[.string (strOf l c),.string (strOf sl sc)]∧l≤1000000∧sc < 256 ^ sl∧v=vf (lB l sl sc c 0)∧h'=h:=by
  intro vf he
  obtain⟨l,c,sl,sc,rfl,hl,hv,hh⟩:=Bp he
  obtain⟨X,Y,rfl,hx,hy⟩:=EZ hr
  cases hx;cases hy
  rename_i h1 h2
  exact⟨l,c,sl,sc,rfl,rfl,hl,h2,hv,hh⟩
 have hne:bJ f≠0:=by intro e;rw [e] at he;cases he
 obtain⟨c0,hb⟩:=hS.enters f hne
 refine⟨eN hb,?_⟩
 have hk:bJ f=1∨bJ f=2∨bJ f=3∨∃ n,bJ f=n+4:=by
  match hk:bJ f with
  | 0=>exact absurd hk hne
  | 1=>exact .inl rfl
  | 2=>exact .inr (.inl rfl)
  | 3=>exact .inr (.inr (.inl rfl))
  | n+4=>exact .inr (.inr (.inr ⟨n,rfl⟩))
 have hsz:∀ l c:Nat,l≤1000000→(strOf l c).size < 4294967281:=fun l c hl=>by rw [aI];omega
 have hdat:∀ l c,(strOf l c).data.toList=ac l c:=fun _ _=>rfl
 rcases hk with hk | hk | hk | ⟨n,hk⟩
 ·rw [hk] at he
  obtain⟨l,c,sl,sc,rfl,rfl,hl,hsc,rfl,rfl⟩:=key Dj he
  refine (hS.index f hk (strOf l c) (strOf sl sc) w hs.size hs.old (hsz l c hl)).mono ?_
  rintro e w' ⟨rfl,rfl⟩
  refine⟨ρ,_,rfl,Sub.refl _,Kept.refl _ _,?_,hs⟩
  rw [hdat,hdat]
  rcases sQ hsc l c 0 with ⟨h1,h2⟩ | ⟨j,h1,h2⟩
  ·rw [h1,h2];exact .int _ _
  ·rw [h1,h2,Nat.zero_add];exact .int _ _
 ·rw [hk] at he
  obtain⟨l,c,sl,sc,rfl,rfl,hl,hsc,rfl,rfl⟩:=key GA he
  refine (hS.contains f hk (strOf l c) (strOf sl sc) w hs.size hs.old (hsz l c hl)).mono ?_
  rintro e w' ⟨rfl,rfl⟩
  refine⟨ρ,_,rfl,Sub.refl _,Kept.refl _ _,?_,hs⟩
  rw [hdat,hdat]
  unfold Lib.contains
  rcases sQ hsc l c 0 with ⟨h1,h2⟩ | ⟨j,h1,h2⟩
  ·rw [h1,h2];exact .bool _
  ·rw [h1,h2,Nat.zero_add]
   have:decide ((0:Int)≤(j:Int))=true:=by simp
   rw [this];exact .bool _
 ·rw [hk] at he
  cases args with
  | nil=>
   have he:some (AV.bool true,h)=some (v,h'):=he
   cases he
   cases hr
   refine (hS.truth f hk w hs.size hs.old).mono ?_
   rintro e w' ⟨rfl,hg⟩
   exact⟨ρ,_,rfl,Sub.refl _,Kept.refl _ _,.bool _,hs.grew hg⟩
  | cons=>cases he
 ·rw [hk] at he
  have he:xL (wu (H.tab n args) args h) (H.prim n args h)=some (v,h'):=he
  cases hm:wu (H.tab n args) args h with
  | none=>rw [hm] at he;exact hS.prim f n hk ρ h w args A v h' hs hr he
  | some p=>
  rw [hm] at he
  have he:some p=some (v,h'):=he
  injection he with he
  subst he
  have he:=hm
  unfold wu at he
  cases hf:c8 args (H.tab n args) with
  | none=>rw [hf] at he;cases he
  | some r=>
   rw [hf] at he
   have he:cond (eP h r.objs) (some (r.val,bp r.objs h)) none=some (v,h'):=he
   cases hfr:eP h r.objs with
   | false=>rw [hfr] at he;cases he
   | true=>
    rw [hfr] at he
    have he:some (r.val,bp r.objs h)=some (v,h'):=he
    injection he with he
    injection he with h1 h2
    subst h1;subst h2
    obtain⟨hmem,rfl⟩:=eA hf
    obtain⟨hok,hcall⟩:=hS.memo f n hk _ r hmem
    unfold Row.ok at hok
    obtain⟨_,hok⟩:=ad hok
    obtain⟨hv,hok⟩:=ad hok
    refine (hcall ρ A w hr hs.size hs.old).mono ?_
    rintro e w' ⟨ρ1,h1,V,rfl,hrel,hs1,hobj⟩
    obtain⟨hs',hsub,hkept⟩:=hs.frame hs1 hobj (n9 hfr) (q7 hok)
    exact⟨_,V,rfl,hsub,hkept,Rel.within (fun b L hb e=>by rw [ed hb];exact e) 20 _ V hv hrel,hs'⟩
end
theorem CG{f:AV→AV→Bool}(hf:∀ x y,f x y=true→x=y):∀ {x y:List AV},ml f x y=true→x=y
 | [],[],_=>rfl
 | a::x,b::y,h=>by
  simp only [ml,Bool.and_eq_true] at h
  rw [hf a b h.1,CG hf h.2]
 | [],_::_,h=>by simp [ml] at h
 | _::_,[],h=>by simp [ml] at h
def Ft:List (AV × AV × Nat)→List (AV × AV × Nat)→Bool
 | [],[]=>true
 | a::x,b::y=>cond (fA 60 a.1 b.1) (cond (fA 60 a.2.1 b.2.1) (cond (Nat.beq a.2.2 b.2.2) (Ft x y) false) false) false
 | _,_=>false
theorem CI:∀ {x y:List (AV × AV × Nat)},Ft x y=true→x=y
 | [],[],_=>rfl
 | (a,b,c)::x,(a',b',c')::y,h=>by
  unfold Ft at h
  obtain⟨h1,h⟩:=ad h
  obtain⟨h2,h⟩:=ad h
  obtain⟨h3,h⟩:=ad h
  have h1:fA 60 a a'=true:=h1
  have h2:fA 60 b b'=true:=h2
  have h3:Nat.beq c c'=true:=h3
  rw [ne 60 _ _ h1,ne 60 _ _ h2,Nat.eq_of_beq_eq_true h3,CI h]
 | [],_::_,h=>by cases h
 | _::_,[],h=>by cases h
def HC(a b:Bool):Bool:=match a,b with
 | true,true=>true
 | false,false=>true
 | _,_=>false
theorem qE{a b:Bool}(h:HC a b=true):a=b:=by cases a<;>cases b<;>first | rfl | cases h
def HD(a b:AObj):Bool:=match a,b with
 | .cells e cs o fz,.cells e' cs' o' fz'=>cond (Nat.beq e e') (cond (HC o o') (cond (Nat.beq fz fz') (ml (fA 60) cs cs') false) false) false
 | .map es c,.map es' c'=>cond (Nat.beq c c') (Ft es es') false
 | .dead,.dead=>true
 | _,_=>false
theorem HF{a b:AObj}(h:HD a b=true):a=b:=by
 unfold HD at h
 split at h
 ·obtain⟨h1,h⟩:=ad h
  obtain⟨h2,h⟩:=ad h
  obtain⟨h3,h⟩:=ad h
  rw [Nat.eq_of_beq_eq_true h1,qE h2,Nat.eq_of_beq_eq_true h3,CG (ne 60) h]
 ·obtain⟨h1,h⟩:=ad h
  rw [Nat.eq_of_beq_eq_true h1,CI h]
 ·rfl
 ·cases h
def wW(h:Heap):List (Key × AObj)→Bool
 | []=>true
 | p::r=>match h.get p.1 with
  | some o=>cond (HD o p.2) (wW h r) false
  | none=>false
theorem q8{h:Heap}:∀ {objs:List (Key × AObj)},wW h objs=true→∀ p ∈ objs,h.get p.1=some p.2
 | [],_,p,hp=>by cases hp
 | q::r,ha,p,hp=>by
  unfold wW at ha
  split at ha
  ·rename_i o hg
   obtain⟨h1,h2⟩:=ad ha
   cases hp with
   | head=>rw [hg,HF h1]
   | tail _ hp=>exact q8 h2 p hp
  ·cases ha
def K1(r:Row)(v:AV)(h:Heap):Bool:=cond (fA 60 v r.val) (wW h r.objs) false
end Go.VM
end
namespace Go.VM
def lookN:List (Nat × Nat)→Nat→Nat
 | [],_=>0
 | (a,b)::r,f=>cond (Nat.beq f a) b (lookN r f)
theorem oL:∀ {l:List (Nat × Nat)} {f k:Nat},lookN l f=k→k≠0→(f,k) ∈ l
 | [],f,k,h,h0=>absurd h.symm h0
 | (a,b)::r,f,k,h,h0=>by
  unfold lookN at h
  cases hb:Nat.beq f a with
  | true=>rw [hb] at h;have:=Nat.eq_of_beq_eq_true hb;subst this;have h:b=k:=h;subst h;exact List.mem_cons_self ..
  | false=>rw [hb] at h;exact List.mem_cons_of_mem _ (oL h h0)
theorem rowsOk_of[Hook]{P:Program}{l:List (Nat × Nat)}(hl:∀ f,eB f=lookN l f)
  (h:∀ f k,(f,k) ∈ l→∀ fd,P.funcs[f]?=some fd→∀ impl,vmRow k fd=some impl→Extern.findNext fd=none∧Extern.find fd=some impl):RowsOk P:=by
 intro f fd hf hb impl hv
 obtain⟨hp,_⟩:=gN hf
 have hne:lookN l f≠0:=by
  intro e
  rw [hl f,e] at hv
  cases hv
 rw [hl f] at hv
 exact h f _ (oL rfl hne) fd hp impl hv
theorem body_of{P:Program}{f:Nat}{fd:Func}(hp:P.funcs[f]?=some fd)(hn:(fd.name == "runtime.NumGoroutine")=false)(hb:fd.body.isSome=true):∃ c,bodyOf P f=some c:=by
 obtain⟨c,hc⟩:=Option.isSome_iff_exists.1 hb
 exact⟨c,by simp [bodyOf,jN,hp,hn,hc]⟩
theorem cell_keeps{P:Program}{laid:List (Nat × AObj)}{tot:Nat→Nat}{b:Base}{w:World}{g:Nat}{v:Value}(hk:b.Keeps P laid tot)(h:b.w.cell? ⟨g,0,none⟩=some v)(hg:g < P.globals.size)(ho:∀ k,b.F k→w.heap[k]?=b.w.heap[k]?):w.cell? ⟨g,0,none⟩=some v:=by
 simp only [World.cell?] at h ⊢
 rw [ho g (hk.glob g hg)];exact h
theorem sY{ρ:Rho}:∀ zs:List Int,RelL ρ (zs.map fun z=>AV.int .u8 z) (zs.map fun z=>Value.int .u8 z)
 | []=>.nil
 | _z::r=>.cons _ _ _ _ (.int _ _) (sY r)
theorem table_of{P:Program}{W:World}{n:String}{g t e k fuel:Nat}{cs:Array Value}{zs:List Int}{p:List MemPlace}(hg:P.globalNamed n=some g)(hv:W.var? P n=some cs)(ht:P.underlying t=some (.array k e))(he:P.underlying e=some (.int .u8))(hc:P.cellsOf e=1)(hct:P.cellsOf t=k)(hz:zs.length=k)
  (hd:DataW.trod (fun _=>()) P W 0 (fun _=>true) false fuel t cs.toList=some (.agg (zs.map fun z=>.lit (.int .u8 z)),p)):
  ∀ N ρ,ObjRel N ρ ⟨g,0,k⟩ W.heap[g]? (.fixed 0 (zs.map fun z=>AV.int .u8 z)):=by
 obtain⟨xs,m,_,ex,hl,hxl,hel⟩:=DataW.trod_array ht hd
 have e3:(xs.map (·.1))=zs.map fun n=>.lit (.int .u8 n):=(DataW.agg.inj (Prod.mk.inj ex).1).symm
 have hcs:cs.toList=zs.map fun z=>Value.int .u8 z:=by
  refine List.ext_getElem? fun r=>?_
  by_cases hr:r < k
  ·have hE:=hel r hr
   rw [hc,Nat.mul_one,List.getElem?_eq_getElem (by omega)] at hE
   obtain⟨z,e1,e2,_⟩:=DataW.trod_int he hE
   have e4:(xs.map (·.1))[r]?=(zs.map fun n=>(DataW.lit (.int .u8 n):DataW Unit))[r]?:=by rw [e3]
   rw [List.getElem?_map,List.getElem?_map,List.getElem?_eq_getElem (by omega:r < xs.length),e2] at e4
   have h0:((cs.toList.drop r).take 1)[0]?=some (.int .u8 z):=by rw [e1];rfl
   have h1:cs.toList[r]?=some (.int .u8 z):=by simpa using h0
   rw [h1,List.getElem?_map]
   cases hzr:zs[r]? with
   | none=>rw [hzr] at e4;cases e4
   | some y=>
    rw [hzr] at e4
    have:z=y:=by simpa using e4
    rw [this];rfl
  ·rw [List.getElem?_eq_none (by omega),List.getElem?_eq_none (by rw [List.length_map];omega)]
 have hheap:∃ e q,W.heap[g]?=some (.cells cs e q):=by
  simp only [World.var?,hg,Option.bind_some] at hv
  split at hv
  ·rename_i h;cases hv;exact⟨_,_,h⟩
  ·cases hv
 obtain⟨e',q,hh⟩:=hheap
 intro N ρ
 refine⟨cs,q,⟨e',hh⟩,?_,?_,?_⟩
 ·show cs.size=k;rw [←Array.length_toList,hcs,List.length_map,hz]
 ·show 0+_≤_;rw [List.length_map,←Array.length_toList,hcs,List.length_map];omega
 ·show RelL ρ _ ((cs.toList.drop 0).take _)
  rw [hcs]
  have:((zs.map fun z=>Value.int .u8 z).drop 0).take (zs.map fun z=>AV.int .u8 z).length=zs.map fun z=>Value.int .u8 z:=by rw [List.drop_zero];exact List.take_of_length_le (by simp)
  rw [this];exact sY zs
theorem qw{w w':World}{may:MemPlace→Prop}(h:Grew w w'):w.keptBut w' may:=by
 refine⟨h.os,h.out,fun i hi=>?_⟩
 rw [h.old i hi]
 split<;>simp_all
section
variable {H:Type} {enc:TypeId × Value→H}
theorem post_of_grew{P:Program}{f:Func}{s:ChangeSpec}{apart fresh handsOn:Bool}{W W':World}{args:Array Value}{v:Value}{ds gs:List (DataW H)}{before:List MemPlace}
  (hW:DataW.Whole enc P f.params.toList s.vars apart W args.toList ds gs before)
  (hres:∀ (b:Nat) (sp:Nat→Bool) (hd:Bool),DataW.TrodAll enc P W' b sp hd f.resultTypes.toList (v.resultList f.resultTypes.size) (s.fn H (ds++gs)).results [])
  (hargs:∀ sp:Nat→Bool,DataW.TrodAll enc P W' 0 sp true f.params.toList args.toList (s.fn H (ds++gs)).args [])
  (hvars:∀ sp:Nat→Bool,DataW.TrodVars enc P W' sp s.vars (s.fn H (ds++gs)).vars [])
  (hk:Grew W W'):s.post enc P f apart fresh handsOn false W args v W':=
 ⟨ds,gs,before,[],[],[],hW,hres _ _ _,hargs _,hvars _,qw hk,fun h=>by cases h⟩
theorem handed_of{a:Assume}{C:Checked}{os:Os}{f:FuncId}{fn:Func}{s:ChangeSpec}{conds:List PathCond}{apart fresh handsOn again:Bool}{X:World→Array Value→Prop}
  (hX:∀ (w w':World) (args:Array Value),w.heap=w'.heap→X w args→X w' args)
  (own:ownKnob C.prog.godebug=none) (started:os.Started) (noInit:C.prog.inits.idxOf? f=none) (hfn:C.prog.funcs[f]?=some fn)
  (witness:∃ (w:World) (tape:Tape) (i:Input),w.os=os∧(w.forCall tape i).Shaped C.prog∧i.vars=[]∧Input.okWide C.prog (w.forCall tape i) .any w.heap.size f i∧
   ((s.pre enc C.prog fn conds apart (w.forCall tape i).memory i.args∧X (w.forCall tape i).memory i.args)∧sizedMet enc C.prog fn (OpenSpec.ofChange s) apart (w.forCall tape i).memory i.args)∧a.holds C.prog (lone (Frame.enter C.prog f i.args .normal) [] (w.forCall tape i)))
  (contract:∀ (W:World) (base:Nat) (args:Array Value) (ds gs:List (DataW H)) (before:List MemPlace),
   (∀ (j:Nat) t v,fn.params[j]?=some t→args[j]?=some v→Value.okWide C.prog W .any base t v)→
   DataW.Whole enc C.prog fn.params.toList s.vars apart W args.toList ds gs before→X W args→W.ShapedOpen C.prog→
   Calls C.prog f args W fun e W'=>∃ v,e=.returned v∧s.post enc C.prog fn apart fresh handsOn again W args v W'):
  ReturnsInHanded a C os f .any (fun w args=>(s.pre enc C.prog fn conds apart w args∧X w args)∧sizedMet enc C.prog fn (OpenSpec.ofChange s) apart w args) (s.post enc C.prog fn apart fresh handsOn again):=by
 refine returnsInHanded_of_calls own started noInit witness ?_
 intro w tape i _ hsh _ hok hpre hholds
 obtain⟨_,_,_,fn',hfn',_,_,_,_,hval⟩:=hok
 obtain rfl:fn'=fn:=Option.some.inj (hfn'.symm.trans hfn)
 obtain⟨⟨⟨ds,gs,before,hw,hc⟩,hx⟩,_⟩:=hpre
 refine (contract (w.forCall tape i) w.heap.size i.args ds gs before hval (DataW.Whole.of_heap (w':=w.forCall tape i) (by rfl) hw) (hX _ _ _ (by rfl) hx) hsh).mono fun e W' ⟨v,he,hp⟩=>?_
 subst he
 exact ChangeSpec.post_blind hp
end
end Go.VM
namespace Go.VM
theorem red_and(c:Nat)(hc:c < 9223372036854775808)(x:Int):∃ j,j≤c∧j6 .i64 true c j x:=by
 have hb:(BitVec.ofInt 64 (Int.ofNat c)).toNat=c:=by
  rw [BitVec.toNat_ofInt]
  show (Int.ofNat c % ((2 ^ 64:Nat):Int)).toNat=c
  have:(Int.ofNat c)=((c:Nat):Int):=rfl
  rw [this];omega
 have hr:(BitVec.ofInt 64 x &&& BitVec.ofInt 64 (Int.ofNat c)).toNat≤c:=by
  rw [BitVec.toNat_and,hb];exact Nat.and_le_right
 refine⟨_,hr,?_⟩
 show IntKind.i64.wrap (((BitVec.ofInt 64 x &&& BitVec.ofInt 64 (Int.ofNat c)).toNat:Nat):Int)=_
 generalize (BitVec.ofInt 64 x &&& BitVec.ofInt 64 (Int.ofNat c)).toNat=r at hr
 show IntKind.i64.wrap ((r:Nat):Int)=((r:Nat):Int)
 simp [IntKind.wrap,IntKind.bits,IntKind.signed];omega
theorem red_rem(c:Nat)(hc:0 < c)(x:Int):∃ j,j < c∧j6 .i64 false c j x:=by
 have h0:0≤IntKind.u64.wrap x:=by simp [IntKind.wrap,IntKind.bits,IntKind.signed];omega
 have hc':(0:Int) < Int.ofNat c:=by show (0:Int) < (c:Int);omega
 refine⟨((IntKind.u64.wrap x).tmod (Int.ofNat c)).toNat,?_,?_,fun h=>by cases h⟩
 ·have h1:=Int.tmod_lt_of_pos (IntKind.u64.wrap x) hc'
  have h2:(Int.ofNat c)=(c:Int):=rfl
  have h3:=Int.tmod_nonneg (Int.ofNat c) h0
  omega
 ·have h3:=Int.tmod_nonneg (Int.ofNat c) h0
  show _=((((IntKind.u64.wrap x).tmod (Int.ofNat c)).toNat:Nat):Int)
  omega
end Go.VM
noncomputable section
namespace Go.VM
inductive IR where | no | i (k:IntKind) (n:Int)
inductive SR where | no | s (l c:Nat)
inductive BR where | no | b (x:Bool)
inductive PR where | no | p (b:Key) (off:Nat)
inductive VR where | no | v (b:Key) (off len:Nat) (cap:ACap)
inductive TR where | no | t (vs:List AV)
def AV.ir(v:AV):IR:=AV.rec (motive_1:=fun _=>IR) (motive_2:=fun _=>PUnit) (fun _=>.no) (fun k n=>.i k n) (fun _ _=>.no) (fun _ _=>.no) .no (fun _ _=>.no) .no .no (fun _ _ _ _=>.no) .no (fun _=>.no) (fun _ _ _ _ _=>.no) .no (fun _ _ _=>.no) .no (fun _ _=>.no) (fun _ _=>.no) .no .no (fun _ _ _ _=>.no) (fun _ _ _ _=>.no) (fun _ _ _ _=>.no) (fun _=>.no) (fun _ _ _=>.no) (fun _ _=>.no) .no (fun _ _=>.no) .no ⟨⟩ (fun _ _ _ _=>⟨⟩) v
def AV.sr(v:AV):SR:=AV.rec (motive_1:=fun _=>SR) (motive_2:=fun _=>PUnit) (fun _=>.no) (fun _ _=>.no) (fun _ _=>.no) (fun l c=>.s l c) .no (fun _ _=>.no) .no .no (fun _ _ _ _=>.no) .no (fun _=>.no) (fun _ _ _ _ _=>.no) .no (fun _ _ _=>.no) .no (fun _ _=>.no) (fun _ _=>.no) .no .no (fun _ _ _ _=>.no) (fun _ _ _ _=>.no) (fun _ _ _ _=>.no) (fun _=>.no) (fun _ _ _=>.no) (fun _ _=>.no) .no (fun _ _=>.no) .no ⟨⟩ (fun _ _ _ _=>⟨⟩) v
def AV.br(v:AV):BR:=AV.rec (motive_1:=fun _=>BR) (motive_2:=fun _=>PUnit) (fun b=>.b b) (fun _ _=>.no) (fun _ _=>.no) (fun _ _=>.no) .no (fun _ _=>.no) .no .no (fun _ _ _ _=>.no) .no (fun _=>.no) (fun _ _ _ _ _=>.no) .no (fun _ _ _=>.no) .no (fun _ _=>.no) (fun _ _=>.no) .no .no (fun _ _ _ _=>.no) (fun _ _ _ _=>.no) (fun _ _ _ _=>.no) (fun _=>.no) (fun _ _ _=>.no) (fun _ _=>.no) .no (fun _ _=>.no) .no ⟨⟩ (fun _ _ _ _=>⟨⟩) v
def AV.pr(v:AV):PR:=AV.rec (motive_1:=fun _=>PR) (motive_2:=fun _=>PUnit) (fun _=>.no) (fun _ _=>.no) (fun _ _=>.no) (fun _ _=>.no) .no (fun b o=>.p b o) .no .no (fun _ _ _ _=>.no) .no (fun _=>.no) (fun _ _ _ _ _=>.no) .no (fun _ _ _=>.no) .no (fun _ _=>.no) (fun _ _=>.no) .no .no (fun _ _ _ _=>.no) (fun _ _ _ _=>.no) (fun _ _ _ _=>.no) (fun _=>.no) (fun _ _ _=>.no) (fun _ _=>.no) .no (fun _ _=>.no) .no ⟨⟩ (fun _ _ _ _=>⟨⟩) v
def AV.vr(v:AV):VR:=AV.rec (motive_1:=fun _=>VR) (motive_2:=fun _=>PUnit) (fun _=>.no) (fun _ _=>.no) (fun _ _=>.no) (fun _ _=>.no) .no (fun _ _=>.no) .no .no (fun b o l c=>.v b o l c) .no (fun _=>.no) (fun _ _ _ _ _=>.no) .no (fun _ _ _=>.no) .no (fun _ _=>.no) (fun _ _=>.no) .no .no (fun _ _ _ _=>.no) (fun _ _ _ _=>.no) (fun _ _ _ _=>.no) (fun _=>.no) (fun _ _ _=>.no) (fun _ _=>.no) .no (fun _ _=>.no) .no ⟨⟩ (fun _ _ _ _=>⟨⟩) v
def AV.tr(v:AV):TR:=AV.rec (motive_1:=fun _=>TR) (motive_2:=fun _=>PUnit) (fun _=>.no) (fun _ _=>.no) (fun _ _=>.no) (fun _ _=>.no) .no (fun _ _=>.no) .no .no (fun _ _ _ _=>.no) .no (fun _=>.no) (fun _ _ _ _ _=>.no) .no (fun _ _ _=>.no) .no (fun _ _=>.no) (fun vs _=>.t vs) .no .no (fun _ _ _ _=>.no) (fun _ _ _ _=>.no) (fun _ _ _ _=>.no) (fun _=>.no) (fun _ _ _=>.no) (fun _ _=>.no) .no (fun _ _=>.no) .no ⟨⟩ (fun _ _ _ _=>⟨⟩) v
def Lq(n:Int):Option Nat:=Int.rec (motive:=fun _=>Option Nat) some (fun _=>none) n
def AV.nr(v:AV):Option Nat:=AV.rec (motive_1:=fun _=>Option Nat) (motive_2:=fun _=>PUnit) (fun _=>none) (fun _ n=>Lq n) (fun _ _=>none) (fun _ _=>none) none (fun _ _=>none) none none (fun _ _ _ _=>none) none (fun _=>none) (fun _ _ _ _ _=>none) none (fun _ _ _=>none) none (fun _ _=>none) (fun _ _=>none) none none (fun _ _ _ _=>none) (fun _ _ _ _=>none) (fun _ _ _ _=>none) (fun _=>none) (fun _ _ _=>none) (fun _ _=>none) none (fun _ _=>none) none ⟨⟩ (fun _ _ _ _=>⟨⟩) v
def AV.oneF(v:AV):Bool:=AV.rec (motive_1:=fun _=>Bool) (motive_2:=fun _=>PUnit) (fun _=>true) (fun _ _=>true) (fun _ _=>true) (fun _ _=>true) true (fun _ _=>true) true true (fun _ _ _ _=>true) true (fun _=>true) (fun _ _ _ _ _=>true) true (fun _ _ _=>true) true (fun _ _=>false) (fun _ _=>false) false false (fun _ _ _ _=>true) (fun _ _ _ _=>true) (fun _ _ _ _=>true) (fun _=>true) (fun _ _ _=>true) (fun _ _=>true) true (fun _ _=>true) true ⟨⟩ (fun _ _ _ _=>⟨⟩) v
theorem AV.ir_is{v:AV}{k:IntKind}{n:Int}(h:v.ir=.i k n):v=.int k n:=by
 cases v
 case int k' n'=>have h:IR.i k' n'=IR.i k n:=h;injection h with e0 e1;subst e0;subst e1;rfl
 all_goals exact nomatch (show IR.no=IR.i k n from h)
theorem AV.sr_is{v:AV}{l:Nat}{c:Nat}(h:v.sr=.s l c):v=.str l c:=by
 cases v
 case str l' c'=>have h:SR.s l' c'=SR.s l c:=h;injection h with e0 e1;subst e0;subst e1;rfl
 all_goals exact nomatch (show SR.no=SR.s l c from h)
theorem AV.br_is{v:AV}{b:Bool}(h:v.br=.b b):v=.bool b:=by
 cases v
 case bool b'=>have h:BR.b b'=BR.b b:=h;injection h with e0;subst e0;rfl
 all_goals exact nomatch (show BR.no=BR.b b from h)
theorem AV.pr_is{v:AV}{b:Key}{o:Nat}(h:v.pr=.p b o):v=.ptr b o:=by
 cases v
 case ptr b' o'=>have h:PR.p b' o'=PR.p b o:=h;injection h with e0 e1;subst e0;subst e1;rfl
 all_goals exact nomatch (show PR.no=PR.p b o from h)
theorem AV.vr_is{v:AV}{b:Key}{o:Nat}{l:Nat}{c:ACap}(h:v.vr=.v b o l c):v=.slice b o l c:=by
 cases v
 case slice b' o' l' c'=>have h:VR.v b' o' l' c'=VR.v b o l c:=h;injection h with e0 e1 e2 e3;subst e0;subst e1;subst e2;subst e3;rfl
 all_goals exact nomatch (show VR.no=VR.v b o l c from h)
theorem AV.tr_is{v:AV}{vs:List AV}(h:v.tr=.t vs):v=.tup vs:=by
 cases v
 case tup vs'=>have h:TR.t vs'=TR.t vs:=h;injection h with e0;subst e0;rfl
 all_goals exact nomatch (show TR.no=TR.t vs from h)
theorem AV.nr_is{v:AV}{n:Nat}(h:v.nr=some n):∃ k,v=.int k (.ofNat n):=by
 cases v
 case int k m=>
  cases m with
  | ofNat a=>have h:some a=some n:=h;injection h with e;subst e;exact⟨k,rfl⟩
  | negSucc a=>exact nomatch (show none=some n from h)
 all_goals exact nomatch (show none=some n from h)
theorem AV.oneF_eq(v:AV):v.oneF=v.one:=by cases v<;>rfl
theorem bf{α:Type}(n:Nat)(k:Nat→α):ak n k=k n:=by cases n<;>rfl
def oe(k:IntKind):Bool:=IntKind.rec (motive:=fun _=>Bool) false false false true false false false false k
theorem og{k:IntKind}(h:oe k=true):k=.i64:=by cases k<;>first | rfl | exact nomatch (show false=true from h)
def kNo(k:IntKind):Nat:=IntKind.rec (motive:=fun _=>Nat) 0 1 2 3 4 5 6 7 k
theorem xU(k:IntKind):kNo k=aj k:=by cases k<;>rfl
def noN(_:Nat):Option AV:=none
def C3(s:Nat):Option AV:=cond (Nat.blt s 9223372036854775808) (some (.int .i64 (.ofNat s))) none
def Ko(a b:Nat):Option AV:=ak (Nat.add a b) C3
def Kp(b:Int)(a:Nat):Option AV:=Int.rec (motive:=fun _=>Option AV) (Ko a) noN b
def Kq(a b:Int):Option AV:=Int.rec (motive:=fun _=>Option AV) (Kp b) noN a
def GN(k:IntKind)(a:Int)(k':IntKind)(b:Int):Option AV:=cond (oe k) (cond (oe k') (Kq a b) none) none
def Kr(a b:Nat):Option AV:=cond (Nat.ble b a) (ak (Nat.sub a b) C3) none
def Ks(b:Int)(a:Nat):Option AV:=Int.rec (motive:=fun _=>Option AV) (Kr a) noN b
def Kt(a b:Int):Option AV:=Int.rec (motive:=fun _=>Option AV) (Ks b) noN a
def GO(k:IntKind)(a:Int)(k':IntKind)(b:Int):Option AV:=cond (oe k) (cond (oe k') (Kt a b) none) none
def ltP(b:Int)(a:Nat):Bool:=Int.rec (motive:=fun _=>Bool) (Nat.blt a) (fun _=>false) b
def Lr(a b:Nat):Bool:=Nat.blt b a
def ltM(b:Int)(a:Nat):Bool:=Int.rec (motive:=fun _=>Bool) (fun _=>true) (Lr a) b
def ltI(a b:Int):Bool:=Int.rec (motive:=fun _=>Bool) (ltP b) (ltM b) a
def eqP(b:Int)(a:Nat):Bool:=Int.rec (motive:=fun _=>Bool) (Nat.beq a) (fun _=>false) b
def eqM(b:Int)(a:Nat):Bool:=Int.rec (motive:=fun _=>Bool) (fun _=>false) (Nat.beq a) b
def eqI(a b:Int):Bool:=Int.rec (motive:=fun _=>Bool) (eqP b) (eqM b) a
theorem xV(a b:Int):ltI a b=eH a b:=by cases a<;>cases b<;>rfl
theorem C4(a b:Int):eqI a b=bO a b:=by cases a<;>cases b<;>rfl
def Ab(b:Bool):Option AV:=Bool.rec (motive:=fun _=>Option AV) (some (.bool false)) (some (.bool true)) b
def ww(b:Bool):Option AV:=Bool.rec (motive:=fun _=>Option AV) (some (.bool true)) (some (.bool false)) b
def Ku(k:IntKind)(a:Int)(k':IntKind)(b:Int):Option AV:=cond (Nat.beq (kNo k) (kNo k')) (Ab (ltI a b)) none
def Kv(k:IntKind)(a:Int)(k':IntKind)(b:Int):Option AV:=cond (Nat.beq (kNo k) (kNo k')) (Ab (ltI b a)) none
def Kw(k:IntKind)(a:Int)(k':IntKind)(b:Int):Option AV:=cond (Nat.beq (kNo k) (kNo k')) (ww (ltI b a)) none
def Kx(k:IntKind)(a:Int)(k':IntKind)(b:Int):Option AV:=cond (Nat.beq (kNo k) (kNo k')) (ww (ltI a b)) none
def Ky(k:IntKind)(a:Int)(k':IntKind)(b:Int):Option AV:=cond (Nat.beq (kNo k) (kNo k')) (Ab (eqI a b)) none
def Kz(k:IntKind)(a:Int)(k':IntKind)(b:Int):Option AV:=cond (Nat.beq (kNo k) (kNo k')) (ww (eqI a b)) none
def IW(l c:Nat):Option AV:=cond (Nat.ble l 1000000) (some (.str l c)) none
def IX(c l:Nat):Option AV:=ak c (IW l)
def KA(l c:Nat):Option AV:=ak l (IX c)
def GP(la a lb b:Nat):Option AV:=KA (Nat.add la lb) (Nat.add a (Nat.shiftLeft b (Nat.mul 8 la)))
def Lt(la a lb b:Nat):Option AV:=Ab (cond (Nat.beq la lb) (Nat.beq a b) false)
def Lu(la a lb b:Nat):Option AV:=ww (cond (Nat.beq la lb) (Nat.beq a b) false)
abbrev F4:=IntKind→Int→IntKind→Int→Option AV
abbrev S4:=Nat→Nat→Nat→Nat→Option AV
def GQ(_ _ _ _:Nat):Option AV:=none
def GR(f:F4)(y:AV)(k:IntKind)(a:Int):Option AV:=IR.rec (motive:=fun _=>Option AV) none (f k a) y.ir
def GS(f:S4)(y:AV)(l c:Nat):Option AV:=SR.rec (motive:=fun _=>Option AV) none (f l c) y.sr
def Jy(f:S4)(x y:AV):Option AV:=SR.rec (motive:=fun _=>Option AV) none (GS f y) x.sr
def lD(f:F4)(g:S4)(x y:AV):Option AV:=IR.rec (motive:=fun _=>Option AV) (Jy g x y) (GR f y) x.ir
theorem cQ{f:F4}{g:S4}{x y v:AV}(h:lD f g x y=some v):(∃ k a k' b,x=.int k a∧y=.int k' b∧f k a k' b=some v)∨(∃ l c l' c',x=.str l c∧y=.str l' c'∧g l c l' c'=some v):=by
 unfold lD at h
 cases hx:x.ir with
 | i k a=>
  rw [hx] at h
  have h:GR f y k a=some v:=h
  unfold GR at h
  cases hy:y.ir with
  | i k' b=>rw [hy] at h;exact .inl ⟨k,a,k',b,AV.ir_is hx,AV.ir_is hy,h⟩
  | no=>rw [hy] at h;exact nomatch (show none=some v from h)
 | no=>
  rw [hx] at h
  have h:Jy g x y=some v:=h
  unfold Jy at h
  cases hs:x.sr with
  | no=>rw [hs] at h;exact nomatch (show none=some v from h)
  | s l c=>
   rw [hs] at h
   have h:GS g y l c=some v:=h
   unfold GS at h
   cases hy:y.sr with
   | s l' c'=>rw [hy] at h;exact .inr ⟨l,c,l',c',AV.sr_is hs,AV.sr_is hy,h⟩
   | no=>rw [hy] at h;exact nomatch (show none=some v from h)
structure FB where
 f:AV→AV→Option AV
def lE(_ _:AV):Option AV:=none
def ffB(op:BinOp):FB:=BinOp.rec (motive:=fun _=>FB) ⟨lD GN GP⟩ ⟨lD GO GQ⟩ ⟨lE⟩ ⟨lE⟩ ⟨lE⟩ ⟨lE⟩ ⟨lE⟩ ⟨lE⟩ ⟨lE⟩ ⟨lE⟩ ⟨lE⟩ ⟨lD Ky Lt⟩ ⟨lD Kz Lu⟩ ⟨lD Ku GQ⟩ ⟨lD Kw GQ⟩ ⟨lD Kv GQ⟩ ⟨lD Kx GQ⟩ op
def N8.k0{α:Type}(k:N8 α→St)(a1 a2 a3 a4 a5 a6 a7 y:α):St:=k ⟨y,a1,a2,a3,a4,a5,a6,a7⟩
def N8.w0{α:Type}(g:α→(α→St)→St)(k:N8 α→St)(a0 a1 a2 a3 a4 a5 a6 a7:α):St:=g a0 (N8.k0 k a1 a2 a3 a4 a5 a6 a7)
def N8.wk0{α:Type}(x:N8 α)(g:α→(α→St)→St)(k:N8 α→St):St:=N8.rec (motive:=fun _=>St) (N8.w0 g k) x
def N8.r0{α:Type}(k:α→St)(a0 _ _ _ _ _ _ _:α):St:=k a0
def N8.rk0{α:Type}(x:N8 α)(k:α→St):St:=N8.rec (motive:=fun _=>St) (N8.r0 k) x
def N8.k1{α:Type}(k:N8 α→St)(a0 a2 a3 a4 a5 a6 a7 y:α):St:=k ⟨a0,y,a2,a3,a4,a5,a6,a7⟩
def N8.w1{α:Type}(g:α→(α→St)→St)(k:N8 α→St)(a0 a1 a2 a3 a4 a5 a6 a7:α):St:=g a1 (N8.k1 k a0 a2 a3 a4 a5 a6 a7)
def N8.wk1{α:Type}(x:N8 α)(g:α→(α→St)→St)(k:N8 α→St):St:=N8.rec (motive:=fun _=>St) (N8.w1 g k) x
def N8.r1{α:Type}(k:α→St)(_ a1 _ _ _ _ _ _:α):St:=k a1
def N8.rk1{α:Type}(x:N8 α)(k:α→St):St:=N8.rec (motive:=fun _=>St) (N8.r1 k) x
def N8.k2{α:Type}(k:N8 α→St)(a0 a1 a3 a4 a5 a6 a7 y:α):St:=k ⟨a0,a1,y,a3,a4,a5,a6,a7⟩
def N8.w2{α:Type}(g:α→(α→St)→St)(k:N8 α→St)(a0 a1 a2 a3 a4 a5 a6 a7:α):St:=g a2 (N8.k2 k a0 a1 a3 a4 a5 a6 a7)
def N8.wk2{α:Type}(x:N8 α)(g:α→(α→St)→St)(k:N8 α→St):St:=N8.rec (motive:=fun _=>St) (N8.w2 g k) x
def N8.r2{α:Type}(k:α→St)(_ _ a2 _ _ _ _ _:α):St:=k a2
def N8.rk2{α:Type}(x:N8 α)(k:α→St):St:=N8.rec (motive:=fun _=>St) (N8.r2 k) x
def N8.k3{α:Type}(k:N8 α→St)(a0 a1 a2 a4 a5 a6 a7 y:α):St:=k ⟨a0,a1,a2,y,a4,a5,a6,a7⟩
def N8.w3{α:Type}(g:α→(α→St)→St)(k:N8 α→St)(a0 a1 a2 a3 a4 a5 a6 a7:α):St:=g a3 (N8.k3 k a0 a1 a2 a4 a5 a6 a7)
def N8.wk3{α:Type}(x:N8 α)(g:α→(α→St)→St)(k:N8 α→St):St:=N8.rec (motive:=fun _=>St) (N8.w3 g k) x
def N8.r3{α:Type}(k:α→St)(_ _ _ a3 _ _ _ _:α):St:=k a3
def N8.rk3{α:Type}(x:N8 α)(k:α→St):St:=N8.rec (motive:=fun _=>St) (N8.r3 k) x
def N8.k4{α:Type}(k:N8 α→St)(a0 a1 a2 a3 a5 a6 a7 y:α):St:=k ⟨a0,a1,a2,a3,y,a5,a6,a7⟩
def N8.w4{α:Type}(g:α→(α→St)→St)(k:N8 α→St)(a0 a1 a2 a3 a4 a5 a6 a7:α):St:=g a4 (N8.k4 k a0 a1 a2 a3 a5 a6 a7)
def N8.wk4{α:Type}(x:N8 α)(g:α→(α→St)→St)(k:N8 α→St):St:=N8.rec (motive:=fun _=>St) (N8.w4 g k) x
def N8.r4{α:Type}(k:α→St)(_ _ _ _ a4 _ _ _:α):St:=k a4
def N8.rk4{α:Type}(x:N8 α)(k:α→St):St:=N8.rec (motive:=fun _=>St) (N8.r4 k) x
def N8.k5{α:Type}(k:N8 α→St)(a0 a1 a2 a3 a4 a6 a7 y:α):St:=k ⟨a0,a1,a2,a3,a4,y,a6,a7⟩
def N8.w5{α:Type}(g:α→(α→St)→St)(k:N8 α→St)(a0 a1 a2 a3 a4 a5 a6 a7:α):St:=g a5 (N8.k5 k a0 a1 a2 a3 a4 a6 a7)
def N8.wk5{α:Type}(x:N8 α)(g:α→(α→St)→St)(k:N8 α→St):St:=N8.rec (motive:=fun _=>St) (N8.w5 g k) x
def N8.r5{α:Type}(k:α→St)(_ _ _ _ _ a5 _ _:α):St:=k a5
def N8.rk5{α:Type}(x:N8 α)(k:α→St):St:=N8.rec (motive:=fun _=>St) (N8.r5 k) x
def N8.k6{α:Type}(k:N8 α→St)(a0 a1 a2 a3 a4 a5 a7 y:α):St:=k ⟨a0,a1,a2,a3,a4,a5,y,a7⟩
def N8.w6{α:Type}(g:α→(α→St)→St)(k:N8 α→St)(a0 a1 a2 a3 a4 a5 a6 a7:α):St:=g a6 (N8.k6 k a0 a1 a2 a3 a4 a5 a7)
def N8.wk6{α:Type}(x:N8 α)(g:α→(α→St)→St)(k:N8 α→St):St:=N8.rec (motive:=fun _=>St) (N8.w6 g k) x
def N8.r6{α:Type}(k:α→St)(_ _ _ _ _ _ a6 _:α):St:=k a6
def N8.rk6{α:Type}(x:N8 α)(k:α→St):St:=N8.rec (motive:=fun _=>St) (N8.r6 k) x
def N8.k7{α:Type}(k:N8 α→St)(a0 a1 a2 a3 a4 a5 a6 y:α):St:=k ⟨a0,a1,a2,a3,a4,a5,a6,y⟩
def N8.w7{α:Type}(g:α→(α→St)→St)(k:N8 α→St)(a0 a1 a2 a3 a4 a5 a6 a7:α):St:=g a7 (N8.k7 k a0 a1 a2 a3 a4 a5 a6)
def N8.wk7{α:Type}(x:N8 α)(g:α→(α→St)→St)(k:N8 α→St):St:=N8.rec (motive:=fun _=>St) (N8.w7 g k) x
def N8.r7{α:Type}(k:α→St)(_ _ _ _ _ _ _ a7:α):St:=k a7
def N8.rk7{α:Type}(x:N8 α)(k:α→St):St:=N8.rec (motive:=fun _=>St) (N8.r7 k) x
structure Wr (α:Type) where
 f:N8 α→(α→(α→St)→St)→(N8 α→St)→St
def wr{α:Type}(d:D8):Wr α:=D8.rec (motive:=fun _=>Wr α) ⟨N8.wk0⟩ ⟨N8.wk1⟩ ⟨N8.wk2⟩ ⟨N8.wk3⟩ ⟨N8.wk4⟩ ⟨N8.wk5⟩ ⟨N8.wk6⟩ ⟨N8.wk7⟩ d
structure Rr (α:Type) where
 f:N8 α→(α→St)→St
def rr{α:Type}(d:D8):Rr α:=D8.rec (motive:=fun _=>Rr α) ⟨N8.rk0⟩ ⟨N8.rk1⟩ ⟨N8.rk2⟩ ⟨N8.rk3⟩ ⟨N8.rk4⟩ ⟨N8.rk5⟩ ⟨N8.rk6⟩ ⟨N8.rk7⟩ d
theorem Ac{α:Type}(d:D8)(x:N8 α)(g:α→(α→St)→St)(k:N8 α→St):(wr d).f x g k=g ((sel d).f x) (fun y=>k ((upd d).f (lA y) x)):=by cases x;cases d<;>rfl
theorem Ad{α:Type}(d:D8)(x:N8 α)(k:α→St):(rr d).f x k=k ((sel d).f x):=by cases x;cases d<;>rfl
theorem l6{α:Type}(d:D8)(f:α→α)(x:N8 α):(upd d).f (lA (f ((sel d).f x))) x=(upd d).f f x:=by cases x;cases d<;>rfl
def inV{α:Type}(v:α)(_:α)(k:α→St):St:=k v
def in1{α:Type}(a:D8)(v:α)(x:N8 α)(k:N8 α→St):St:=(wr a).f x (inV v) k
def in2{α:Type}(a b:D8)(v:α)(x:N8 (N8 α))(k:N8 (N8 α)→St):St:=(wr b).f x (in1 a v) k
def in3{α:Type}(a b c:D8)(v:α)(x:N8 (N8 (N8 α)))(k:N8 (N8 (N8 α))→St):St:=(wr c).f x (in2 a b v) k
def in4{α:Type}(a b c d:D8)(v:α)(x:N8 (N8 (N8 (N8 α))))(k:N8 (N8 (N8 (N8 α)))→St):St:=(wr d).f x (in3 a b c v) k
def in5{α:Type}(a b c d e:D8)(v:α)(x:N8 (N8 (N8 (N8 (N8 α)))))(k:N8 (N8 (N8 (N8 (N8 α))))→St):St:=(wr e).f x (in4 a b c d v) k
theorem Jz{α:Type}(a:D8)(v:α)(x:N8 α)(k:N8 α→St):in1 a v x k=k ((upd a).f (lA v) x):=by unfold in1;rw [Ac];rfl
theorem GT{α:Type}(a b:D8)(v:α)(x:N8 (N8 α))(k:N8 (N8 α)→St):in2 a b v x k=k ((upd b).f ((upd a).f (lA v)) x):=by unfold in2;rw [Ac,Jz,l6]
theorem GU{α:Type}(a b c:D8)(v:α)(x:N8 (N8 (N8 α)))(k:N8 (N8 (N8 α))→St):in3 a b c v x k=k ((upd c).f ((upd b).f ((upd a).f (lA v))) x):=by unfold in3;rw [Ac,GT,l6]
theorem JA{α:Type}(a b c d:D8)(v:α)(x:N8 (N8 (N8 (N8 α))))(k:N8 (N8 (N8 (N8 α)))→St):in4 a b c d v x k=k ((upd d).f ((upd c).f ((upd b).f ((upd a).f (lA v)))) x):=by unfold in4;rw [Ac,GU,l6]
theorem GV{α:Type}(a b c d e:D8)(v:α)(x:N8 (N8 (N8 (N8 (N8 α)))))(k:N8 (N8 (N8 (N8 (N8 α))))→St):in5 a b c d e v x k=k ((upd e).f ((upd d).f ((upd c).f ((upd b).f ((upd a).f (lA v))))) x):=by unfold in5;rw [Ac,JA,l6]
structure PB where
 f:AV→ST→(ST→St)→St
def pS2(k:ST→St)(mid:N8 (N8 (N8 AV)))(hi:List (Nat × AV))(lo:N8 (N8 AV)):St:=k ⟨lo,mid,hi⟩
def pS1(a b:D8)(v:AV)(k:ST→St)(lo:N8 (N8 AV))(mid:N8 (N8 (N8 AV)))(hi:List (Nat × AV)):St:=in2 a b v lo (pS2 k mid hi)
def pS(a b:D8)(v:AV)(t:ST)(k:ST→St):St:=ST.rec (motive:=fun _=>St) (pS1 a b v k) t
def pM2(k:ST→St)(lo:N8 (N8 AV))(hi:List (Nat × AV))(mid:N8 (N8 (N8 AV))):St:=k ⟨lo,mid,hi⟩
def pM1(a b c:D8)(v:AV)(k:ST→St)(lo:N8 (N8 AV))(mid:N8 (N8 (N8 AV)))(hi:List (Nat × AV)):St:=in3 a b c v mid (pM2 k lo hi)
def pM(a b c:D8)(v:AV)(t:ST)(k:ST→St):St:=ST.rec (motive:=fun _=>St) (pM1 a b c v k) t
def pH(n:Nat)(v:AV)(t:ST)(k:ST→St):St:=k (t.set v (.h n))
def pbS(a b:D8):PB:=⟨pS a b⟩
def pbM(a b c:D8):PB:=⟨pM a b c⟩
def pbH(n:Nat):PB:=⟨pH n⟩
def pb(d:Nat):PB:=SKey.rec (motive:=fun _=>PB) pbS pbM pbH (keyOf d)
theorem GW(d:Nat)(v:AV)(t:ST)(k:ST→St):(pb d).f v t k=k (t.set v (keyOf d)):=by
 unfold pb
 generalize keyOf d=key
 obtain⟨lo,mid,hi⟩:=t
 cases key with
 | s a b=>exact GT a b v lo _
 | m a b c=>exact GU a b c v mid _
 | h n=>rfl
def sS2(ih:ST→Nat→(ST→St)→St)(i:Nat)(k:ST→St)(t:ST):St:=ih t (Nat.succ i) k
def sS1(v:AV)(_:List AV)(ih:ST→Nat→(ST→St)→St)(t:ST)(i:Nat)(k:ST→St):St:=(pb i).f v t (sS2 ih i k)
def Dr(args:List AV):ST→Nat→(ST→St)→St:=List.rec (motive:=fun _=>ST→Nat→(ST→St)→St) (fun t _ k=>k t) sS1 args
theorem Ae:∀ (args:List AV) (t:ST) (i:Nat) (k:ST→St),Dr args t i k=k (gY args t i)
 | [],t,i,k=>rfl
 | v::args,t,i,k=>by
  show (pb i).f v t (sS2 (Dr args) i k)=_
  rw [GW]
  show Dr args (t.set v (keyOf i)) (Nat.succ i) k=_
  rw [Ae args];rfl
def hp2(k:Heap→St)(n:Key)(t:RT5 AObj):St:=k ⟨⟨t⟩,n⟩
def hp1(o:AObj)(k:Heap→St)(n:Key)(t:RT5 AObj)(a b c d e:D8):St:=in5 a b c d e (some o) t (hp2 k n)
def hp0(o:AObj)(b:Key)(k:Heap→St)(n:Key)(t:RT5 AObj):St:=Key.rec (motive:=fun _=>St) (hp1 o k n t) b
def hpT(o:AObj)(b:Key)(k:Heap→St)(t:RT AObj)(n:Key):St:=RT.rec (motive:=fun _=>St) (hp0 o b k n) t
def GX(h:Heap)(b:Key)(o:AObj)(k:Heap→St):St:=Heap.rec (motive:=fun _=>St) (hpT o b k) h
theorem Ds(h:Heap)(b:Key)(o:AObj)(k:Heap→St):GX h b o k=k (h.put b o):=by
 obtain⟨⟨t⟩,n⟩:=h
 obtain⟨a,b,c,d,e⟩:=b
 exact GV a b c d e (some o) t _
def ha3(k:Key→Heap→St)(t:RT5 AObj)(a b c d e:D8):St:=wo (fun a'=>k ⟨a,b,c,d,e⟩ ⟨⟨t⟩,⟨a',b,c,d,e⟩⟩) (k ⟨a,b,c,d,e⟩ ⟨⟨t⟩,bV ⟨a,b,c,d,e⟩⟩) a
def ha2(k:Key→Heap→St)(a b c d e:D8)(t:RT5 AObj):St:=ha3 k t a b c d e
def ha1(o:AObj)(k:Key→Heap→St)(w:St)(t:RT5 AObj)(a b c d e:D8):St:=Option.rec (motive:=fun _=>St) (in5 a b c d e (some o) t (ha2 k a b c d e)) (fun _=>w) (RT.getD t a b c d e)
def ha0(o:AObj)(k:Key→Heap→St)(w:St)(n:Key)(t:RT5 AObj):St:=Key.rec (motive:=fun _=>St) (ha1 o k w t) n
def haT(o:AObj)(k:Key→Heap→St)(w:St)(t:RT AObj)(n:Key):St:=RT.rec (motive:=fun _=>St) (ha0 o k w n) t
def uy(h:Heap)(o:AObj)(k:Key→Heap→St)(w:St):St:=Heap.rec (motive:=fun _=>St) (haT o k w) h
theorem wx(h:Heap)(o:AObj)(kr:Key→Heap→Res)(k:Key→Heap→St)(slow:Res→St)(hk:∀ b h,slow (kr b h)=k b h):uy h o k (slow (.bad "key"))=slow (h.alloc o kr):=by
 obtain⟨⟨t⟩,n⟩:=h
 obtain⟨a,b,c,d,e⟩:=n
 show Option.rec (motive:=fun _=>St) (in5 a b c d e (some o) t (ha2 k a b c d e)) (fun _=>slow (.bad "key")) (RT.getD t a b c d e)=slow (Option.rec (motive:=fun _=>Res) (kr ⟨a,b,c,d,e⟩ (.mk (RT.set o ⟨a,b,c,d,e⟩ ⟨t⟩) (bV ⟨a,b,c,d,e⟩))) (fun _=>.bad "key") (RT.getD t a b c d e))
 cases RT.getD t a b c d e with
 | some x=>rfl
 | none=>
  show in5 a b c d e (some o) t (ha2 k a b c d e)=slow (kr ⟨a,b,c,d,e⟩ (.mk (RT.set o ⟨a,b,c,d,e⟩ ⟨t⟩) (bV ⟨a,b,c,d,e⟩)))
  rw [GV,hk]
  cases a<;>rfl
theorem iR{b:Bool}{v:AV}(h:Ab b=some v)(hp:Heap):boolV b hp=.val v hp:=by
 cases b<;>(injection h with e;subst e;rfl)
theorem fE{b:Bool}{v:AV}(h:ww b=some v)(hp:Heap):boolV (not b) hp=.val v hp:=by
 cases b<;>(injection h with e;subst e;rfl)
section
variable (P:Program)
theorem wy{s:Nat}{v:AV}(h:C3 s=some v):Nat.blt s 9223372036854775808=true∧v=.int .i64 (.ofNat s):=by
 unfold C3 at h
 cases hb:Nat.blt s 9223372036854775808 with
 | true=>rw [hb] at h;injection h with e;exact⟨rfl,e.symm⟩
 | false=>rw [hb] at h;cases h
theorem uz{op:BinOp}{t:Nat}{a b:Int}{hp:Heap}{s:Nat}(hb:Nat.blt s 9223372036854775808=true):wp P op t .i64 a .i64 b hp (Int.ofNat s)=.val (.int .i64 (.ofNat s)) hp:=by
 show cond (Nat.blt s 9223372036854775808) (intV .i64 (Int.ofNat s) hp) _=_
 rw [hb]
 show ak s (fun a=>Res.val (.int .i64 (Int.ofNat a)) hp)=_
 rw [bf]
theorem GY{t:Nat}{k k':IntKind}{a b:Int}{v:AV}{hp:Heap}(h:GN k a k' b=some v):binInt P .add t k a k' b hp=.val v hp:=by
 unfold GN at h
 cases h1:oe k with
 | false=>rw [h1] at h;cases h
 | true=>cases h2:oe k' with
  | false=>rw [h1,h2] at h;cases h
  | true=>
   rw [h1,h2] at h
   obtain rfl:=og h1
   obtain rfl:=og h2
   have h:Kq a b=some v:=h
   cases a with
   | negSucc a=>exact nomatch (show none=some v from h)
   | ofNat a=>cases b with
    | negSucc b=>exact nomatch (show none=some v from h)
    | ofNat b=>
     have h:ak (Nat.add a b) C3=some v:=h
     rw [bf] at h
     obtain⟨hb,rfl⟩:=wy h
     exact uz P hb
theorem GZ{t:Nat}{k k':IntKind}{a b:Int}{v:AV}{hp:Heap}(h:GO k a k' b=some v):binInt P .sub t k a k' b hp=.val v hp:=by
 unfold GO at h
 cases h1:oe k with
 | false=>rw [h1] at h;cases h
 | true=>cases h2:oe k' with
  | false=>rw [h1,h2] at h;cases h
  | true=>
   rw [h1,h2] at h
   obtain rfl:=og h1
   obtain rfl:=og h2
   have h:Kt a b=some v:=h
   cases a with
   | negSucc a=>exact nomatch (show none=some v from h)
   | ofNat a=>cases b with
    | negSucc b=>exact nomatch (show none=some v from h)
    | ofNat b=>
     have h:cond (Nat.ble b a) (ak (Nat.sub a b) C3) none=some v:=h
     cases hle:Nat.ble b a with
     | false=>rw [hle] at h;cases h
     | true=>
      rw [hle] at h
      have h:ak (Nat.sub a b) C3=some v:=h
      rw [bf] at h
      obtain⟨hb,rfl⟩:=wy h
      have e:(Int.ofNat a - Int.ofNat b)=Int.ofNat (Nat.sub a b):=by
       have:=Nat.le_of_ble_eq_true hle
       show ((a:Nat):Int) - ((b:Nat):Int)=((a - b:Nat):Int)
       omega
      show wp P .sub t .i64 (Int.ofNat a) .i64 (Int.ofNat b) hp (Int.ofNat a - Int.ofNat b)=_
      rw [e]
      exact uz P hb
theorem pv{op:BinOp}{t:Nat}{k k':IntKind}{a b:Int}{v:AV}{hp:Heap}{x:Option AV}(h:cond (Nat.beq (kNo k) (kNo k')) x none=some v)(hx:x=some v→xp P op t k a k' b hp=.val v hp):binInt P op t k a k' b hp=.val v hp:=by
 rw [xU,xU] at h
 unfold binInt
 cases hb:Nat.beq (aj k) (aj k') with
 | false=>rw [hb] at h;cases h
 | true=>rw [hb] at h;exact hx h
theorem I9{t:Nat}{k k':IntKind}{a b:Int}{v:AV}{hp:Heap}(h:Ku k a k' b=some v):binInt P .lss t k a k' b hp=.val v hp:=pv P h fun h=>by rw [xV] at h;exact iR h hp
theorem Ia{t:Nat}{k k':IntKind}{a b:Int}{v:AV}{hp:Heap}(h:Kv k a k' b=some v):binInt P .gtr t k a k' b hp=.val v hp:=pv P h fun h=>by rw [xV] at h;exact iR h hp
theorem Ib{t:Nat}{k k':IntKind}{a b:Int}{v:AV}{hp:Heap}(h:Kw k a k' b=some v):binInt P .leq t k a k' b hp=.val v hp:=pv P h fun h=>by rw [xV] at h;exact fE h hp
theorem Ic{t:Nat}{k k':IntKind}{a b:Int}{v:AV}{hp:Heap}(h:Kx k a k' b=some v):binInt P .geq t k a k' b hp=.val v hp:=pv P h fun h=>by rw [xV] at h;exact fE h hp
theorem Id{t:Nat}{k k':IntKind}{a b:Int}{v:AV}{hp:Heap}(h:Ky k a k' b=some v):binInt P .eql t k a k' b hp=.val v hp:=pv P h fun h=>by rw [C4] at h;exact iR h hp
theorem Ie{t:Nat}{k k':IntKind}{a b:Int}{v:AV}{hp:Heap}(h:Kz k a k' b=some v):binInt P .neq t k a k' b hp=.val v hp:=pv P h fun h=>by rw [C4] at h;exact fE h hp
theorem H0{la a lb b:Nat}{v:AV}{hp:Heap}(h:GP la a lb b=some v):binStr .add la a lb b hp=.val v hp:=by
 unfold GP KA IX IW at h
 rw [bf,bf] at h
 show strV (la+lb) (a+Nat.shiftLeft b (8 * la)) hp=_
 unfold strV
 rw [bf,bf]
 show cond (Nat.ble (Nat.add la lb) 1000000) _ _=_
 cases hb:Nat.ble (Nat.add la lb) 1000000 with
 | false=>rw [hb] at h;cases h
 | true=>
  rw [hb] at h
  injection h with e;subst e
  rfl
theorem JB{op:BinOp}{t:Nat}{c:Bool}{x y v:AV}{hp:Heap}(h:(ffB op).f x y=some v):xq P op t c x y hp=.val v hp:=by
 have no:∀ {z:Option AV},lE x y=some v→False:=fun e=>nomatch (show none=some v from e)
 cases op
 case add=>
  rcases cQ h with ⟨k,a,k',b,rfl,rfl,h⟩ | ⟨l,a,l',b,rfl,rfl,h⟩
  ·exact GY P h
  ·exact H0 h
 case sub=>
  rcases cQ h with ⟨k,a,k',b,rfl,rfl,h⟩ | ⟨l,a,l',b,rfl,rfl,h⟩
  ·exact GZ P h
  ·exact nomatch (show none=some v from h)
 case eql=>
  rcases cQ h with ⟨k,a,k',b,rfl,rfl,h⟩ | ⟨l,a,l',b,rfl,rfl,h⟩
  ·exact Id P h
  ·exact iR h hp
 case neq=>
  rcases cQ h with ⟨k,a,k',b,rfl,rfl,h⟩ | ⟨l,a,l',b,rfl,rfl,h⟩
  ·exact Ie P h
  ·exact fE h hp
 case lss=>
  rcases cQ h with ⟨k,a,k',b,rfl,rfl,h⟩ | ⟨l,a,l',b,rfl,rfl,h⟩
  ·exact I9 P h
  ·exact nomatch (show none=some v from h)
 case leq=>
  rcases cQ h with ⟨k,a,k',b,rfl,rfl,h⟩ | ⟨l,a,l',b,rfl,rfl,h⟩
  ·exact Ib P h
  ·exact nomatch (show none=some v from h)
 case gtr=>
  rcases cQ h with ⟨k,a,k',b,rfl,rfl,h⟩ | ⟨l,a,l',b,rfl,rfl,h⟩
  ·exact Ia P h
  ·exact nomatch (show none=some v from h)
 case geq=>
  rcases cQ h with ⟨k,a,k',b,rfl,rfl,h⟩ | ⟨l,a,l',b,rfl,rfl,h⟩
  ·exact Ic P h
  ·exact nomatch (show none=some v from h)
 all_goals exact nomatch (show none=some v from h)
structure OB where
 g:Slots→AV
def gS(a b:D8)(T:Slots):AV:=(sel a).f ((sel b).f T.t.lo)
def gM(a b c:D8)(T:Slots):AV:=(sel a).f ((sel b).f ((sel c).f T.t.mid))
def gH(n:Nat)(T:Slots):AV:=D3 n T.t.hi
def bS(a b:D8):OB:=⟨gS a b⟩
def bM(a b c:D8):OB:=⟨gM a b c⟩
def bH(n:Nat):OB:=⟨gH n⟩
def opT(t:Nat):OB:=SKey.rec (motive:=fun _=>OB) bS bM bH (keyOf t)
def gC(v:Value)(_:Slots):AV:=G7 (bg v)
def opC(v:Value):OB:=⟨gC v⟩
def gG(g:Nat)(_:Slots):AV:=D4 P g
def opG(g:Nat):OB:=⟨gG P g⟩
def gF(f:Nat)(_:Slots):AV:=.func (.func f) [] []
def opF(f:Nat):OB:=⟨gF f⟩
def opd(x:Operand):OB:=Operand.rec (motive:=fun _=>OB) opT opC (opG P) opF x
theorem gw(x:Operand)(T:Slots):(opd P x).g T=ev P T x:=by
 cases x
 case tmp t=>
  show (SKey.rec (motive:=fun _=>OB) bS bM bH (keyOf t)).g T=T.t.get (keyOf t)
  generalize keyOf t=k
  cases k<;>rfl
 all_goals rfl
structure GB where
 f:Slots→(AV→St)→St
def cS1(a:D8)(k:AV→St)(x:N8 AV):St:=(rr a).f x k
def cS(a b:D8)(T:Slots)(k:AV→St):St:=(rr b).f T.t.lo (cS1 a k)
def cM1(a b:D8)(k:AV→St)(x:N8 (N8 AV)):St:=(rr b).f x (cS1 a k)
def cM(a b c:D8)(T:Slots)(k:AV→St):St:=(rr c).f T.t.mid (cM1 a b k)
def cH(n:Nat)(T:Slots)(k:AV→St):St:=k (D3 n T.t.hi)
def cbS(a b:D8):GB:=⟨cS a b⟩
def cbM(a b c:D8):GB:=⟨cM a b c⟩
def cbH(n:Nat):GB:=⟨cH n⟩
def okT(t:Nat):GB:=SKey.rec (motive:=fun _=>GB) cbS cbM cbH (keyOf t)
def cV(v:AV)(_:Slots)(k:AV→St):St:=k v
def cbV(v:AV):GB:=⟨cV v⟩
def uB{α:Type}(v:AV)(k:AV→α):α:=AV.rec (motive_1:=fun _=>α) (motive_2:=fun _=>PUnit) (fun b=>k (.bool b)) (fun a b=>k (.int a b)) (fun a b=>k (.float a b)) (fun a b=>k (.str a b)) (k .nilPtr) (fun a b=>k (.ptr a b)) (k .nilSlice) (k .emptyS) (fun a b c d=>k (.slice a b c d)) (k .nilMap) (fun a=>k (.map a)) (fun a b c _ _=>k (.func a b c)) (k .nilFunc) (fun a b _=>k (.iface a b)) (k .nilIface) (fun a _=>k (.agg a)) (fun a _=>k (.tup a)) (k .undef) (k .junk) (fun a b c d=>k (.red a b c d)) (fun a b c d=>k (.reds a b c d)) (fun a b c _=>k (.tab a b c)) (fun a=>k (.ustr a)) (fun a b c=>k (.ofs a b c)) (fun a b=>k (.sliceG a b)) (k .nan) (fun a b=>k (.rng a b)) (k .byte) ⟨⟩ (fun _ _ _ _=>⟨⟩) v
theorem wz{α:Type}(v:AV)(k:AV→α):uB v k=k v:=by cases v<;>rfl
def okC(v:Value):GB:=uB (G7 (bg v)) cbV
def okG(g:Nat):GB:=uB (D4 P g) cbV
def okF(f:Nat):GB:=cbV (.func (.func f) [] [])
def opK(x:Operand):GB:=Operand.rec (motive:=fun _=>GB) okT okC (okG P) okF x
theorem C5(t:Nat)(T:Slots)(k:AV→St):(okT t).f T k=k (T.get t):=by
 show (SKey.rec (motive:=fun _=>GB) cbS cbM cbH (keyOf t)).f T k=k (T.t.get (keyOf t))
 generalize keyOf t=key
 cases key with
 | s a b=>show (rr b).f T.t.lo (cS1 a k)=_;rw [Ad];show (rr a).f _ k=_;rw [Ad];rfl
 | m a b c=>show (rr c).f T.t.mid (cM1 a b k)=_;rw [Ad];show (rr b).f _ (cS1 a k)=_;rw [Ad];show (rr a).f _ k=_;rw [Ad];rfl
 | h n=>rfl
theorem xW(x:Operand)(T:Slots)(k:AV→St):(opK P x).f T k=k (ev P T x):=by
 cases x
 case tmp t=>exact C5 t T k
 case const v=>show (uB (G7 (bg v)) cbV).f T k=_;rw [wz];rfl
 case global g=>show (uB (D4 P g) cbV).f T k=_;rw [wz];rfl
 case func f=>rfl
structure AB where
 f:Slots→(List AV→St)→St
def aN(_:Slots)(k:List AV→St):St:=k []
def aC2(v:AV)(k:List AV→St)(vs:List AV):St:=k (v::vs)
def aC1(ih:AB)(T:Slots)(k:List AV→St)(v:AV):St:=ih.f T (aC2 v k)
def aC(g:GB)(ih:AB)(T:Slots)(k:List AV→St):St:=g.f T (aC1 ih T k)
def Lw(x:Operand)(_:List Operand)(ih:AB):AB:=⟨aC (opK P x) ih⟩
def H1(xs:List Operand):AB:=List.rec (motive:=fun _=>AB) ⟨aN⟩ (Lw P) xs
theorem Dt(T:Slots):∀ (xs:List Operand) (k:List AV→St),(H1 P xs).f T k=k (evs P T xs)
 | [],k=>rfl
 | x::r,k=>by
  show (opK P x).f T (aC1 (H1 P r) T k)=_
  rw [xW]
  show (H1 P r).f T (aC2 (ev P T x) k)=_
  rw [Dt T r];rfl
abbrev XK:=Slots→Heap→(AV→Heap→St)→(Res→St)→St
structure XB where
 f:XK
def gz(f:XK)(g:XF):Prop:=∀ T h next slow,(∀ v h,slow (Res.val v h)=next v h)→f T h next slow=slow (g T h)
def IZ(g:XF):XK:=fun T h _ slow=>slow (g T h)
def ge(g:XF):XB:=⟨IZ g⟩
theorem bT(g:XF):gz (IZ g) g:=fun _ _ _ _ _=>rfl
def kN(next:AV→Heap→St)(h:Heap)(v:AV):St:=next v h
def kO(g:XF)(T:Slots)(h:Heap)(next:AV→Heap→St)(slow:Res→St)(o:Option AV):St:=Option.rec (motive:=fun _=>St) (slow (g T h)) (kN next h) o
theorem qR{g:XF}{T:Slots}{h:Heap}{next:AV→Heap→St}{slow:Res→St}(hs:∀ v h,slow (Res.val v h)=next v h){o:Option AV}(ho:∀ v,o=some v→g T h=.val v h):kO g T h next slow o=slow (g T h):=by
 cases o with
 | none=>rfl
 | some v=>show next v h=_;rw [ho v rfl,hs]
def KB(x:GB):XK:=fun T h next _=>x.f T (kN next h)
def kF2(ff:AV→AV→Option AV)(g:XF)(x y:Slots→AV):XK:=fun T h next slow=>kO g T h next slow (ff (x T) (y T))
def C6(x:Operand):XB:=⟨KB (opK P x)⟩
def J0(op:BinOp)(t:Nat)(x y:Operand)(u:Nat):XB:=⟨kF2 (ffB op).f (I5 P op t x y u) (opd P x).g (opd P y).g⟩
theorem qq(x:Operand):gz (C6 P x).f (Dg P x):=fun T h next slow hs=>by
 show (opK P x).f T (kN next h)=slow (.val (ev P T x) h)
 rw [xW,hs];rfl
theorem C7(op:BinOp)(t:Nat)(x y:Operand)(u:Nat):gz (J0 P op t x y u).f (I5 P op t x y u):=fun T h next slow hs=>
 qR hs fun v hv=>by
  rw [gw,gw] at hv
  exact JB P hv
def kF1(ff:Heap→AV→Option AV)(g:XF)(x:Slots→AV):XK:=fun T h next slow=>kO g T h next slow (ff h (x T))
theorem hJ{ff:Heap→AV→Option AV}{g:XF}{x:Operand}(hf:∀ T h v,ff h (ev P T x)=some v→g T h=.val v h):gz (kF1 ff g (opd P x).g) g:=fun T h next slow hs=>
 qR hs fun v hv=>by rw [gw] at hv;exact hf T h v hv
def Ly(x:AV)(ih:Nat→Option AV)(n:Nat):Option AV:=Nat.rec (motive:=fun _=>Option AV) (some x) (fun m _=>ih m) n
def If(l:List AV):Nat→Option AV:=List.rec (motive:=fun _=>Nat→Option AV) (fun _=>none) (fun x _ ih=>Ly x ih) l
theorem H2{α:Type}(n:Nat):drop n ([]:List α)=[]:=by cases n<;>rfl
theorem xX:∀ (l:List AV) (n:Nat),If l n=hd (drop n l)
 | [],n=>by rw [H2];rfl
 | x::r,0=>rfl
 | x::r,n+1=>xX r n
def H3(o:AObj):Option (List AV):=AObj.rec (motive:=fun _=>Option (List AV)) (fun _ cs _ _=>some cs) (fun _ cs=>some cs) none (fun _ _=>none) (fun _ _ _=>none) (fun _ _ _ _=>none) (fun _ _ _ _ _ _ _ _=>none) (fun _=>none) (fun _ _ _=>none) (fun _=>none) (fun _=>none) (fun _=>none) (fun _ _=>none) (fun _ _=>none) (fun _ _ _ _=>none) (fun _ _ _=>none) (fun _ _=>none) (fun _ _=>none) (fun _ _ _ _=>none) (fun _ _ _=>none) o
def KC(off:Nat)(cs:List AV):Option AV:=If cs off
def Du(off:Nat)(o:AObj):Option AV:=Option.rec (motive:=fun _=>Option AV) none (KC off) (H3 o)
def H4(h:Heap)(b:Key)(off:Nat):Option AV:=Option.rec (motive:=fun _=>Option AV) none (Du off) (h.t.get b)
theorem H5(h:Heap)(b:Key)(off:Nat):H4 h b off=fv h b off:=by
 obtain⟨t,n⟩:=h
 show Option.rec (motive:=fun _=>Option AV) none (Du off) (t.get b)=Option.rec (motive:=fun _=>Option AV) none (fun cs=>hd (drop off cs)) (cellsOf (t.get b))
 cases t.get b with
 | none=>rfl
 | some o=>cases o<;>first | rfl | exact xX _ _
def ldF(h:Heap)(v:AV):Option AV:=PR.rec (motive:=fun _=>Option AV) none (H4 h) v.pr
def C8(t:Nat)(x:Operand):XB:=cond (and (known P t) (not (bQ P t))) ⟨kF1 ldF (zR P t x) (opd P x).g⟩ (ge (zR P t x))
theorem Af(t:Nat)(x:Operand):gz (C8 P t x).f (zR P t x):=by
 unfold C8
 cases hk:known P t with
 | false=>exact bT _
 | true=>cases ha:bQ P t with
  | true=>exact bT _
  | false=>
   refine hJ P fun T h v hv=>?_
   unfold ldF at hv
   cases hp:(ev P T x).pr with
   | no=>rw [hp] at hv;exact nomatch (show none=some v from hv)
   | p b off=>
    rw [hp] at hv
    have hv:H4 h b off=some v:=hv
    rw [H5] at hv
    have e:=AV.pr_is hp
    show tX P t (ev P T x) h=_
    rw [e]
    show cond (bQ P t) _ (cond (known P t) (okv (fv h b off) h "load") (.bad "load type"))=_
    rw [ha,hk,hv];rfl
def faP(b:Key)(o:Nat):Option AV:=some (.ptr b o)
def faN(o:Nat)(b:Key)(off:Nat):Option AV:=ak (Nat.add off o) (faP b)
def faF(o:Nat)(_:Heap)(v:AV):Option AV:=PR.rec (motive:=fun _=>Option AV) none (faN o) v.pr
def jS(s:Nat)(x:Operand)(f:Nat):XB:=cond (nP P s f) ⟨kF1 (faF (u9 P s f)) (fy P s x f) (opd P x).g⟩ (ge (fy P s x f))
theorem px(s:Nat)(x:Operand)(f:Nat):gz (jS P s x f).f (fy P s x f):=by
 unfold jS
 cases hk:nP P s f with
 | false=>exact bT _
 | true=>
  refine hJ P fun T h v hv=>?_
  unfold faF at hv
  cases hp:(ev P T x).pr with
  | no=>rw [hp] at hv;exact nomatch (show none=some v from hv)
  | p b off=>
   rw [hp] at hv
   have hv:ak (Nat.add off (u9 P s f)) (faP b)=some v:=hv
   rw [bf] at hv
   injection hv with hv
   subst hv
   have e:=AV.pr_is hp
   show ei P s f (ev P T x) h=_
   rw [e]
   show cond (nP P s f) (ak (off+u9 P s f) (fun o=>Res.val (.ptr b o) h)) _=_
   rw [hk,bf];rfl
def JC(v:AV):Option AV:=PR.rec (motive:=fun _=>Option AV) none (fun b o=>some (.ptr b o)) v.pr
def Lz(_:Heap)(v:AV):Option AV:=JC v
def J1(x:Operand):XB:=⟨kF1 Lz (I4 P x) (opd P x).g⟩
theorem C9(x:Operand):gz (J1 P x).f (I4 P x):=by
 refine hJ P fun T h v hv=>?_
 have hv:JC (ev P T x)=some v:=hv
 unfold JC at hv
 cases hp:(ev P T x).pr with
 | no=>rw [hp] at hv;exact nomatch (show none=some v from hv)
 | p b off=>
  rw [hp] at hv
  injection hv with hv
  subst hv
  show EC (ev P T x) h=_
  rw [AV.pr_is hp];rfl
def exN(i:Nat)(vs:List AV):Option AV:=If vs i
def exF(i:Nat)(_:Heap)(v:AV):Option AV:=TR.rec (motive:=fun _=>Option AV) none (exN i) v.tr
def wA(x:Operand)(i:Nat):XB:=⟨kF1 (exF i) (nW P x i) (opd P x).g⟩
theorem uC(x:Operand)(i:Nat):gz (wA P x i).f (nW P x i):=by
 refine hJ P fun T h v hv=>?_
 unfold exF at hv
 cases hp:(ev P T x).tr with
 | no=>rw [hp] at hv;exact nomatch (show none=some v from hv)
 | t vs=>
  rw [hp] at hv
  have hv:If vs i=some v:=hv
  rw [xX] at hv
  show gW (ev P T x) i h=_
  rw [AV.tr_is hp]
  show okv (hd (drop i vs)) h "extract"=_
  rw [hv];rfl
def JD(_:Heap)(v:AV):Option AV:=BR.rec (motive:=fun _=>Option AV) none ww v.br
def Dv(_:Heap)(_:AV):Option AV:=none
structure HB where
 f:Heap→AV→Option AV
def unB(op:UnOp):HB:=UnOp.rec (motive:=fun _=>HB) ⟨Dv⟩ ⟨Dv⟩ ⟨JD⟩ ⟨Dv⟩ op
def KD(op:UnOp)(t:Nat)(x:Operand):XB:=⟨kF1 (unB op).f (cUn P op t x) (opd P x).g⟩
theorem EH(op:UnOp)(t:Nat)(x:Operand):gz (KD P op t x).f (cUn P op t x):=by
 refine hJ P fun T h v hv=>?_
 cases op
 case not=>
  have hv:JD h (ev P T x)=some v:=hv
  unfold JD at hv
  cases hp:(ev P T x).br with
  | no=>rw [hp] at hv;exact nomatch (show none=some v from hv)
  | b c=>
   rw [hp] at hv
   show xUn P .not (ev P T x) h=_
   rw [AV.br_is hp]
   exact fE hv h
 all_goals exact nomatch (show none=some v from hv)
def iaN(sz:Nat)(b:Key)(off n i:Nat):Option AV:=cond (Nat.blt i n) (ak (Nat.add off (Nat.mul i sz)) (faP b)) none
def iaV(sz:Nat)(y:AV)(b:Key)(off n:Nat)(_:ACap):Option AV:=Option.rec (motive:=fun _=>Option AV) none (iaN sz b off n) y.nr
def iaF(sz:Nat)(x y:AV):Option AV:=VR.rec (motive:=fun _=>Option AV) none (iaV sz y) x.vr
def slE(d:Option TypeDesc):Option Nat:=match d with
 | some (.slice e)=>some e
 | _=>none
def H6(t:Nat)(x i:Operand)(e:Nat):XB:=cond (gU P e) ⟨kF2 (iaF (aU P e)) (em P t x i) (opd P x).g (opd P i).g⟩ (ge (em P t x i))
def jT(t:Nat)(x i:Operand):XB:=Option.rec (motive:=fun _=>XB) (ge (em P t x i)) (H6 P t x i) (slE (P.underlying t))
theorem pA(t:Nat)(x i:Operand):gz (jT P t x i).f (em P t x i):=by
 unfold jT
 cases hu:slE (P.underlying t) with
 | none=>exact bT _
 | some e=>
  have hu':P.underlying t=some (.slice e):=by
   unfold slE at hu
   split at hu
   ·injection hu with hu;subst hu;assumption
   ·cases hu
  show gz (H6 P t x i e).f _
  unfold H6
  cases hk:gU P e with
  | false=>exact bT _
  | true=>
   refine fun T h next slow hs=>qR hs fun v hv=>?_
   rw [gw,gw] at hv
   unfold iaF at hv
   cases hp:(ev P T x).vr with
   | no=>rw [hp] at hv;exact nomatch (show none=some v from hv)
   | v b off n cap=>
    rw [hp] at hv
    have hv:iaV (aU P e) (ev P T i) b off n cap=some v:=hv
    unfold iaV at hv
    cases hi:(ev P T i).nr with
    | none=>rw [hi] at hv;exact nomatch (show none=some v from hv)
    | some j=>
     rw [hi] at hv
     have hv:cond (Nat.blt j n) (ak (Nat.add off (Nat.mul j (aU P e))) (faP b)) none=some v:=hv
     cases hb:Nat.blt j n with
     | false=>rw [hb] at hv;cases hv
     | true=>
      rw [hb] at hv
      have hv:ak (Nat.add off (Nat.mul j (aU P e))) (faP b)=some v:=hv
      rw [bf] at hv
      injection hv with hv
      subst hv
      obtain⟨k,hj⟩:=AV.nr_is hi
      show cL P t (ev P T x) (ev P T i) h=_
      rw [AV.vr_is hp,hj]
      show cond (Nat.blt j n) (match P.underlying t with | some (.slice e)=>cond (gU P e) (ak (off+j * aU P e) (fun o=>Res.val (.ptr b o) h)) (Res.bad "indexAddr") | _=>Res.bad "indexAddr") _=_
      rw [hb,hu']
      show cond (gU P e) (ak (off+j * aU P e) (fun o=>Res.val (.ptr b o) h)) _=_
      rw [hk,bf];rfl
def u8O(c:Nat):Option AV:=some (.int .u8 (.ofNat c))
def ixN(l c i:Nat):Option AV:=cond (Nat.blt i l) (ak (Nat.mod (Nat.shiftRight c (Nat.mul 8 i)) 256) u8O) none
def ixS(y:AV)(l c:Nat):Option AV:=Option.rec (motive:=fun _=>Option AV) none (ixN l c) y.nr
def ixF(x y:AV):Option AV:=SR.rec (motive:=fun _=>Option AV) none (ixS y) x.sr
def xY(t:Nat)(x i:Operand):XB:=cond (jC P t) ⟨kF2 ixF (uq P t x i) (opd P x).g (opd P i).g⟩ (ge (uq P t x i))
theorem xZ(t:Nat)(x i:Operand):gz (xY P t x i).f (uq P t x i):=by
 unfold xY
 cases hk:jC P t with
 | false=>exact bT _
 | true=>
  refine fun T h next slow hs=>qR hs fun v hv=>?_
  rw [gw,gw] at hv
  unfold ixF at hv
  cases hp:(ev P T x).sr with
  | no=>rw [hp] at hv;exact nomatch (show none=some v from hv)
  | s l c=>
   rw [hp] at hv
   have hv:ixS (ev P T i) l c=some v:=hv
   unfold ixS at hv
   cases hi:(ev P T i).nr with
   | none=>rw [hi] at hv;exact nomatch (show none=some v from hv)
   | some j=>
    rw [hi] at hv
    have hv:cond (Nat.blt j l) (ak (Nat.mod (Nat.shiftRight c (Nat.mul 8 j)) 256) u8O) none=some v:=hv
    cases hb:Nat.blt j l with
    | false=>rw [hb] at hv;cases hv
    | true=>
     rw [hb] at hv
     have hv:ak (Nat.mod (Nat.shiftRight c (Nat.mul 8 j)) 256) u8O=some v:=hv
     rw [bf] at hv
     injection hv with hv
     subst hv
     obtain⟨k,hj⟩:=AV.nr_is hi
     show g7 P t (ev P T x) (ev P T i) h=_
     rw [AV.sr_is hp,hj]
     show cond (jC P t) (cond (Nat.blt j l) (ak (Nat.mod (Nat.shiftRight c (8 * j)) 256) (fun c=>Res.val (.int .u8 (Int.ofNat c)) h)) _) _=_
     rw [hk,hb]
     show ak (Nat.mod (Nat.shiftRight c (8 * j)) 256) (fun c=>Res.val (.int .u8 (Int.ofNat c)) h)=_
     rw [bf];rfl
def J2(x:AV)(o:Option (List AV)):Option (List AV):=Option.rec (motive:=fun _=>Option (List AV)) none (fun l=>some (x::l)) o
def KE(v x:AV)(r:List AV)(ih:Nat→Option (List AV))(n:Nat):Option (List AV):=Nat.rec (motive:=fun _=>Option (List AV)) (some (v::r)) (fun m _=>J2 x (ih m)) n
def ew(v:AV)(l:List AV):Nat→Option (List AV):=List.rec (motive:=fun _=>Nat→Option (List AV)) (fun _=>none) (fun x r ih=>KE v x r ih) l
theorem qr{v:AV}:∀ {l:List AV} {n:Nat} {l':List AV},ew v l n=some l'→Nat.ble (n+1) (len l)=true∧l'=splice l n [v]
 | [],n,l',h=>nomatch (show none=some l' from h)
 | x::r,0,l',h=>by
  have h:some (v::r)=some l':=h
  injection h with h;subst h
  exact⟨by show Nat.ble 1 (len r+1)=true;exact Nat.ble_eq.mpr (by omega),rfl⟩
 | x::r,n+1,l',h=>by
  have h:J2 x (ew v r n)=some l':=h
  cases hr:ew v r n with
  | none=>rw [hr] at h;exact nomatch (show none=some l' from h)
  | some l2=>
   rw [hr] at h
   have h:some (x::l2)=some l':=h
   injection h with h;subst h
   obtain⟨h1,h2⟩:=qr hr
   refine⟨?_,?_⟩
   ·have:=Nat.ble_eq.mp h1
    show Nat.ble (n+1+1) (len r+1)=true
    exact Nat.ble_eq.mpr (by omega)
   ·rw [h2];rfl
def Ag(h:Heap)(b:Key)(e:Nat)(o:Bool)(fz:Nat)(cs:List AV):Option Heap:=some ⟨h.t.set (.cells e cs o fz) b,h.next⟩
def Ig(h:Heap)(b:Key)(off:Nat)(v:AV)(e:Nat)(cs:List AV)(o:Bool)(fz:Nat):Option Heap:=cond (Nat.ble fz off) (Option.rec (motive:=fun _=>Option Heap) none (Ag h b e o fz) (ew v cs off)) none
def Dw(h:Heap)(b:Key)(off:Nat)(v:AV)(o:AObj):Option Heap:=AObj.rec (motive:=fun _=>Option Heap) (Ig h b off v) (fun _ _=>none) none (fun _ _=>none) (fun _ _ _=>none) (fun _ _ _ _=>none) (fun _ _ _ _ _ _ _ _=>none) (fun _=>none) (fun _ _ _=>none) (fun _=>none) (fun _=>none) (fun _=>none) (fun _ _=>none) (fun _ _=>none) (fun _ _ _ _=>none) (fun _ _ _=>none) (fun _ _=>none) (fun _ _=>none) (fun _ _ _ _=>none) (fun _ _ _=>none) o
def y7(h:Heap)(v:AV)(b:Key)(off:Nat):Option Heap:=Option.rec (motive:=fun _=>Option Heap) none (Dw h b off v) (h.t.get b)
theorem Ah{h h':Heap}{v:AV}{b:Key}{off:Nat}(hv:v.one=true)(hs:y7 h v b off=some h'):bo h b off v.cells=some h':=by
 have hc:v.cells=[v]:=by cases v<;>first | rfl | cases hv
 rw [hc]
 obtain⟨t,nx⟩:=h
 have hs:Option.rec (motive:=fun _=>Option Heap) none (Dw ⟨t,nx⟩ b off v) (t.get b)=some h':=hs
 show (match t.get b with
  | some (.cells e cs o fz)=>cond (Nat.ble (off+1) (len cs)) (cond (dq [v]) (cond (Nat.ble fz off) (some (Heap.put ⟨t,nx⟩ b (.cells e (splice cs off [v]) o fz))) none) none) none
  | _=>none)=some h'
 cases hg:t.get b with
 | none=>rw [hg] at hs;exact nomatch (show none=some h' from hs)
 | some o=>
  rw [hg] at hs
  have hs:Dw ⟨t,nx⟩ b off v o=some h':=hs
  cases o with
  | cells e cs op fz=>
   have hs:cond (Nat.ble fz off) (Option.rec (motive:=fun _=>Option Heap) none (Ag ⟨t,nx⟩ b e op fz) (ew v cs off)) none=some h':=hs
   cases hf:Nat.ble fz off with
   | false=>rw [hf] at hs;cases hs
   | true=>
    rw [hf] at hs
    have hs:Option.rec (motive:=fun _=>Option Heap) none (Ag ⟨t,nx⟩ b e op fz) (ew v cs off)=some h':=hs
    cases hn:ew v cs off with
    | none=>rw [hn] at hs;exact nomatch (show none=some h' from hs)
    | some l=>
     rw [hn] at hs
     obtain⟨h1,rfl⟩:=qr hn
     have h3:dq [v]=true:=by show cond v.one true false=true;rw [hv];rfl
     show cond (Nat.ble (off+1) (len cs)) (cond (dq [v]) (cond (Nat.ble fz off) (some (Heap.put ⟨t,nx⟩ b (.cells e (splice cs off [v]) op fz))) none) none) none=some h'
     rw [h1,h3,hf];exact hs
  | _=>exact nomatch (show none=some h' from hs)
def kU(next:AV→Heap→St)(h:Heap):St:=next .undef h
def stF(h:Heap)(a v:AV):Option Heap:=cond v.oneF (PR.rec (motive:=fun _=>Option Heap) none (y7 h v) a.pr) none
inductive CO where | no | c (e:Nat) (cs:List AV) (o:Bool) (fz:Nat)
def LA(o:AObj):CO:=AObj.rec (motive:=fun _=>CO) (fun e cs o fz=>.c e cs o fz) (fun _ _=>.no) .no (fun _ _=>.no) (fun _ _ _=>.no) (fun _ _ _ _=>.no) (fun _ _ _ _ _ _ _ _=>.no) (fun _=>.no) (fun _ _ _=>.no) (fun _=>.no) (fun _=>.no) (fun _=>.no) (fun _ _=>.no) (fun _ _=>.no) (fun _ _ _ _=>.no) (fun _ _ _=>.no) (fun _ _=>.no) (fun _ _=>.no) (fun _ _ _ _=>.no) (fun _ _ _=>.no) o
def JE(h:Heap)(next:AV→Heap→St)(b:Key)(e:Nat)(o:Bool)(fz:Nat)(cs:List AV):St:=GX h b (.cells e cs o fz) (kU next)
def LB(h:Heap)(next:AV→Heap→St)(w:St)(v:AV)(b:Key)(off:Nat)(e:Nat)(cs:List AV)(o:Bool)(fz:Nat):St:=Bool.rec (motive:=fun _=>St) w (Option.rec (motive:=fun _=>St) w (JE h next b e o fz) (ew v cs off)) (Nat.ble fz off)
def KF(h:Heap)(next:AV→Heap→St)(w:St)(v:AV)(b:Key)(off:Nat)(o:AObj):St:=CO.rec (motive:=fun _=>St) w (LB h next w v b off) (LA o)
def KG(h:Heap)(next:AV→Heap→St)(w:St)(v:AV)(b:Key)(off:Nat):St:=Option.rec (motive:=fun _=>St) w (KF h next w v b off) (h.t.get b)
def kSt(x:Slots→AV)(T:Slots)(h:Heap)(next:AV→Heap→St)(w:St)(v:AV):St:=Bool.rec (motive:=fun _=>St) w (PR.rec (motive:=fun _=>St) w (KG h next w v) (x T).pr) v.oneF
def JF(g:XF)(x:Slots→AV)(y:GB):XK:=fun T h next slow=>y.f T (kSt x T h next (slow (g T h)))
theorem JG(x:Slots→AV)(T:Slots)(h:Heap)(next:AV→Heap→St)(w:St)(v:AV):kSt x T h next w v=Option.rec (motive:=fun _=>St) w (kU next) (stF h (x T) v):=by
 unfold kSt stF
 cases v.oneF with
 | false=>rfl
 | true=>
  show PR.rec (motive:=fun _=>St) w (KG h next w v) (x T).pr=Option.rec (motive:=fun _=>St) w (kU next) (PR.rec (motive:=fun _=>Option Heap) none (y7 h v) (x T).pr)
  cases (x T).pr with
  | no=>rfl
  | p b off=>
   show Option.rec (motive:=fun _=>St) w (KF h next w v b off) (h.t.get b)=Option.rec (motive:=fun _=>St) w (kU next) (Option.rec (motive:=fun _=>Option Heap) none (Dw h b off v) (h.t.get b))
   cases h.t.get b with
   | none=>rfl
   | some o=>
    cases o with
    | cells e cs op fz=>
     show Bool.rec (motive:=fun _=>St) w (Option.rec (motive:=fun _=>St) w (JE h next b e op fz) (ew v cs off)) (Nat.ble fz off)=Option.rec (motive:=fun _=>St) w (kU next) (cond (Nat.ble fz off) (Option.rec (motive:=fun _=>Option Heap) none (Ag h b e op fz) (ew v cs off)) none)
     cases Nat.ble fz off with
     | false=>rfl
     | true=>
      show Option.rec (motive:=fun _=>St) w (JE h next b e op fz) (ew v cs off)=Option.rec (motive:=fun _=>St) w (kU next) (Option.rec (motive:=fun _=>Option Heap) none (Ag h b e op fz) (ew v cs off))
      cases ew v cs off with
      | none=>rfl
      | some l=>show GX h b (.cells e l op fz) (kU next)=_;rw [Ds];rfl
    | _=>rfl
def y8(t:Nat)(a v:Operand):XB:=cond (and (known P t) (Nat.beq 1 (aU P t))) ⟨JF (ma P t a v) (opd P a).g (opK P v)⟩ (ge (ma P t a v))
theorem y9(t:Nat)(a v:Operand):gz (y8 P t a v).f (ma P t a v):=by
 unfold y8
 cases hk:and (known P t) (Nat.beq 1 (aU P t)) with
 | false=>exact bT _
 | true=>
  refine fun T h next slow hs=>?_
  show (opK P v).f T (kSt (opd P a).g T h next (slow (ma P t a v T h)))=_
  rw [xW,JG,gw]
  cases ho:stF h (ev P T a) (ev P T v) with
  | none=>rfl
  | some h'=>
   show next .undef h'=_
   unfold stF at ho
   rw [AV.oneF_eq] at ho
   cases h1:(ev P T v).one with
   | false=>rw [h1] at ho;cases ho
   | true=>
    rw [h1] at ho
    have ho:PR.rec (motive:=fun _=>Option Heap) none (y7 h (ev P T v)) (ev P T a).pr=some h':=ho
    cases hp:(ev P T a).pr with
    | no=>rw [hp] at ho;exact nomatch (show none=some h' from ho)
    | p b off=>
     rw [hp] at ho
     have ho:=Ah h1 ho
     have hl:len (ev P T v).cells=1:=by
      have:∀ x:AV,x.one=true→len x.cells=1:=fun x hx=>by cases x<;>first | rfl | cases hx
      exact this _ h1
     have:ma P t a v T h=.val .undef h':=by
      show xr P t (ev P T a) (ev P T v) h=_
      rw [AV.pr_is hp]
      show cond (and (known P t) (Nat.beq (len (ev P T v).cells) (aU P t))) (match bo h b off (ev P T v).cells with | some h=>Res.val .undef h | none=>tY b off (ev P T v) h (h.get b)) _=_
      rw [hl,hk,ho];rfl
     rw [this,hs]
def JH(_:Heap)(v:AV):Option AV:=SR.rec (motive:=fun _=>Option AV) none (fun l _=>some (.int .i64 (.ofNat l))) v.sr
def JI(_:Heap)(v:AV):Option AV:=VR.rec (motive:=fun _=>Option AV) none (fun _ _ l _=>some (.int .i64 (.ofNat l))) v.vr
def KH(d:Option TypeDesc):HB:=match d with
 | some .string=>⟨JH⟩
 | some (.slice _)=>⟨JI⟩
 | _=>⟨Dv⟩
theorem Ih{t:Nat}{h:Heap}{x v:AV}(hv:(KH (P.underlying t)).f h x=some v):zM P t x h=.val v h:=by
 unfold zM
 cases hu:P.underlying t with
 | none=>rw [hu] at hv;exact nomatch (show none=some v from hv)
 | some d=>
  rw [hu] at hv
  cases d
  case string=>
   have hv:JH h x=some v:=hv
   unfold JH at hv
   cases hp:x.sr with
   | no=>rw [hp] at hv;exact nomatch (show none=some v from hv)
   | s l c=>
    rw [hp] at hv
    have hv:some (AV.int .i64 (.ofNat l))=some v:=hv
    injection hv with hv;subst hv
    rw [AV.sr_is hp]
  case slice e=>
   have hv:JI h x=some v:=hv
   unfold JI at hv
   cases hp:x.vr with
   | no=>rw [hp] at hv;exact nomatch (show none=some v from hv)
   | v b o l c=>
    rw [hp] at hv
    have hv:some (AV.int .i64 (.ofNat l))=some v:=hv
    injection hv with hv;subst hv
    rw [AV.vr_is hp]
  all_goals exact nomatch (show none=some v from hv)
def EI(next:AV→Heap→St)(b:Key)(h:Heap):St:=next (.ptr b 0) h
def kAl(e:Nat)(cs:List AV):XK:=fun _ h next slow=>uy h (.cells e cs false 0) (EI next) (slow (.bad "key"))
def KI(e:Nat)(z:AV):XB:=⟨kAl e z.cells⟩
def ya(e:Nat):XB:=Option.rec (motive:=fun _=>XB) (ge (xE P e)) (KI e) (bK P e)
theorem yb(e:Nat):gz (ya P e).f (xE P e):=by
 unfold ya
 cases hz:bK P e with
 | none=>exact bT _
 | some z=>
  intro T h next slow hs
  show uy h (.cells e z.cells false 0) (EI next) (slow (.bad "key"))=slow (iM P e h)
  unfold iM
  rw [hz]
  exact wx h _ (fun b h=>.val (.ptr b 0) h) (EI next) slow (fun b h=>hs _ _)
def kBx(e:Nat)(h:Heap)(next:AV→Heap→St)(w b:St)(v:AV):St:=Bool.rec (motive:=fun _=>St) w (uy h (.cells e [v] false 0) (EI next) b) v.oneF
def LC(g:XF)(e:Nat)(y:GB):XK:=fun T h next slow=>y.f T (kBx e h next (slow (g T h)) (slow (.bad "key")))
def J3(e:Nat)(v:Operand):XB:=⟨LC (Gq P e v) e (opK P v)⟩
theorem Cc(e:Nat)(v:Operand):gz (J3 P e v).f (Gq P e v):=by
 intro T h next slow hs
 show (opK P v).f T (kBx e h next (slow (Gq P e v T h)) (slow (.bad "key")))=_
 rw [xW]
 unfold kBx
 rw [AV.oneF_eq]
 cases h1:(ev P T v).one with
 | false=>rfl
 | true=>
  show uy h (.cells e [ev P T v] false 0) (EI next) (slow (.bad "key"))=slow (vb e (ev P T v) h)
  have hc:(ev P T v).cells=[ev P T v]∧(ev P T v).sure=true:=by
   generalize ev P T v=x at h1
   cases x<;>first | exact⟨rfl,rfl⟩ | cases h1
  unfold vb
  rw [hc.1,hc.2]
  exact wx h _ (fun b h=>.val (.ptr b 0) h) (EI next) slow (fun b h=>hs _ _)
inductive FR where | no | f (g:Nat) (first cap:List AV)
inductive AFR where | no | f (g:Nat)
def afr(x:AFn):AFR:=AFn.rec (motive:=fun _=>AFR) (fun g=>.f g) (fun _=>.no) x
def frG(first cap:List AV)(x:AFR):FR:=AFR.rec (motive:=fun _=>FR) .no (fun g=>.f g first cap) x
def AV.fr(v:AV):FR:=AV.rec (motive_1:=fun _=>FR) (motive_2:=fun _=>PUnit) (fun _=>.no) (fun _ _=>.no) (fun _ _=>.no) (fun _ _=>.no) .no (fun _ _=>.no) .no .no (fun _ _ _ _=>.no) .no (fun _=>.no) (fun x a b _ _=>frG a b (afr x)) .no (fun _ _ _=>.no) .no (fun _ _=>.no) (fun _ _=>.no) .no .no (fun _ _ _ _=>.no) (fun _ _ _ _=>.no) (fun _ _ _ _=>.no) (fun _=>.no) (fun _ _ _=>.no) (fun _ _=>.no) .no (fun _ _=>.no) .no ⟨⟩ (fun _ _ _ _=>⟨⟩) v
theorem AV.fr_is{v:AV}{g:Nat}{a b:List AV}(h:v.fr=.f g a b):v=.func (.func g) a b:=by
 cases v
 case func x a' b'=>
  cases x with
  | func g'=>have h:FR.f g' a' b'=FR.f g a b:=h;injection h with e0 e1 e2;subst e0;subst e1;subst e2;rfl
  | yield l=>exact nomatch (show FR.no=FR.f g a b from h)
 all_goals exact nomatch (show FR.no=FR.f g a b from h)
def JJ(slow:Res→St)(args:List AV)(h:Heap)(g:Nat)(first cap:List AV):St:=slow (.enter g (cat first (cat args cap)) h)
def yc(x:Slots→AV)(T:Slots)(h:Heap)(slow:Res→St)(args:List AV):St:=FR.rec (motive:=fun _=>St) (slow (jJ (x T) args h)) (JJ slow args h) (x T).fr
def KJ(x:Slots→AV)(as:AB):XK:=fun T h _ slow=>as.f T (yc x T h slow)
theorem EJ(x:Slots→AV)(T:Slots)(h:Heap)(slow:Res→St)(args:List AV):yc x T h slow args=slow (jJ (x T) args h):=by
 unfold yc
 cases hf:(x T).fr with
 | no=>rfl
 | f g a b=>rw [AV.fr_is hf];rfl
def Ii(f:Operand)(args:List Operand):XB:=⟨KJ (opd P f).g (H1 P args)⟩
def lenOf(c:Call)(ts:List Nat)(args:List Operand):XB:=match ts,args with
 | t::_,[x]=>⟨kF1 (KH (P.underlying t)).f (zS P c) (opd P x).g⟩
 | _,_=>ge (zS P c)
def Cd(c:Call):XB:=match c.callee with
 | .value f=>Ii P f c.args.toList
 | .builtin .len=>lenOf P c c.argTypes.toList c.args.toList
 | _=>ge (zS P c)
end
end Go.VM
end
noncomputable section
namespace Go.VM
section
variable (P:Program)
theorem Ai(c:Call):gz (Cd P c).f (zS P c):=by
 unfold Cd
 split
 ·rename_i f hc
  obtain⟨cl,as,tys⟩:=c
  have hc:cl=.value f:=hc
  subst hc
  intro T h next slow hs
  show (H1 P as.toList).f T (yc (opd P f).g T h slow)=slow (jJ (ev P T f) (evs P T as.toList) h)
  rw [Dt,EJ,gw]
 ·rename_i hc
  unfold lenOf
  split
  ·rename_i t ts x ht hx
   refine hJ P fun T h v hv=>?_
   have hv:=Ih P hv
   obtain⟨cl,as,tys⟩:=c
   have hc:cl=.builtin .len:=hc
   subst hc
   have ht:tys.toList=t::ts:=ht
   have hx:as.toList=[x]:=hx
   show cN P .len tys.toList (evs P T as.toList) h=_
   rw [ht,hx]
   exact hv
  ·exact bT _
 ·exact bT _
def xb1{α:Type}(f:α→XF)(a:α):XB:=ge (f a)
def xb2{α β:Type}(f:α→β→XF)(a:α)(b:β):XB:=ge (f a b)
def xb3{α β γ:Type}(f:α→β→γ→XF)(a:α)(b:β)(c:γ):XB:=ge (f a b c)
def xb4{α β γ δ:Type}(f:α→β→γ→δ→XF)(a:α)(b:β)(c:γ)(d:δ):XB:=ge (f a b c d)
def xb5{α β γ δ ε:Type}(f:α→β→γ→δ→ε→XF)(a:α)(b:β)(c:γ)(d:δ)(e:ε):XB:=ge (f a b c d e)
def Ce(o:Op):XB:=Op.rec (motive:=fun _=>XB)
 (C6 P) (C6 P) (xb3 (Gp P)) (ya P) (J3 P) (xb2 (BO P)) (xb3 (jK P)) (xb4 (fx P)) (C8 P) (y8 P) (xb1 no1) (xb1 no1) (J1 P) (J0 P) (KD P) (xb3 (ul P)) (xb2 no2)
 (xb2 (BP P)) (xb3 (Gr P)) (xb2 (uo P)) (xb2 no2) (xb3 (me P)) (xb5 (BQ P)) (jS P) (xb3 (BS P)) (jT P) (xY P) (xb4 (xH P)) (xb4 (fx P)) (xb3 no3) (xb4 no4)
 (xb2 (BU P)) (xb2 (Gs P)) (xb1 (BV P)) (xb4 (xI P)) (wA P) (Cd P) (xb1 no1) (xb1 (Gt P)) (xb1 (BW P)) (xb2 no2) (xb3 no3) (xb2 no2) o
theorem qs(o:Op):gz (Ce P o).f (dT P o):=by
 cases o
 case move x=>exact qq P x
 case assign x=>exact qq P x
 case alloc e=>exact yb P e
 case box e v=>exact Cc P e v
 case load t x=>exact Af P t x
 case store t a v=>exact y9 P t a v
 case nilCheck x=>exact C9 P x
 case binOp op t x y u=>exact C7 P op t x y u
 case unOp op t x=>exact EH P op t x
 case fieldAddr s x f=>exact px P s x f
 case indexAddr t x i=>exact pA P t x i
 case index t x i=>exact xZ P t x i
 case extract x i=>exact uC P x i
 case call c=>exact Ai P c
 all_goals exact bT _
def J4(l:Lift)(T:Slots)(h:Heap)(slow:Res→St)(r:Res):St:=slow (gr P l T h r)
def KK(x:XB)(l:Lift):XK:=fun T h next slow=>x.f T h next (J4 P l T h slow)
def J5(x:XB)(l:Option Lift):XB:=Option.rec (motive:=fun _=>XB) x (fun l=>⟨KK P x l⟩) l
def Dx(o:Op):XB:=J5 P (Ce P o) (cm P o)
theorem uF(o:Op):gz (Dx P o).f (gX P o):=by
 intro T h next slow hs
 show (J5 P (Ce P o) (cm P o)).f T h next slow=slow (g9 P (cm P o) T h (dT P o T h))
 cases cm P o with
 | none=>exact qs P o T h next slow hs
 | some l=>exact qs P o T h next (J4 P l T h slow) hs
def J6(a:Bool)(slow:Res→St)(r:Res):St:=slow (bv a r)
def JK(x:XB)(a:Bool):XK:=fun T h next slow=>x.f T h next (J6 a slow)
def uG(o:Op):XB:=⟨JK (Dx P o) (or (mm P o) (bL o))⟩
theorem qt(o:Op):gz (uG P o).f (c9 P o):=fun T h next slow hs=>uF P o T h next (J6 _ slow) hs
def fF(es:List Nat):Nat→List Oper→Nat→Bool
 | _,[],_=>true
 | i,o::r,t=>cond (match o.dst with | some d=>Nat.beq d t | none=>false) (cond (aw i es) (fF es (i+1) r t) false) (fF es (i+1) r t)
theorem qu{es:List Nat}{t:Nat}:∀ {s:Nat} {ops:List Oper},fF es s ops t=true→∀ i o,ops[i]?=some o→o.dst=some t→aw (s+i) es=true
 | s,[],_,i,o,ho,_=>by simp at ho
 | s,p::ops,h,i,o,ho,hd=>by
  unfold fF at h
  cases i with
  | zero=>
   simp at ho;subst ho
   rw [hd] at h
   have h:cond (Nat.beq t t) (cond (aw s es) (fF es (s+1) ops t) false) (fF es (s+1) ops t)=true:=h
   rw [Nat.beq_refl] at h
   rw [Nat.add_zero]
   cases he:aw s es with
   | true=>rfl
   | false=>rw [he] at h;cases h
  | succ i=>
   have hr:fF es (s+1) ops t=true:=by
    generalize (match p.dst with | some d=>Nat.beq d t | none=>false)=b at h
    cases b with
    | false=>exact h
    | true=>cases he:aw s es with
     | true=>rw [he] at h;exact h
     | false=>rw [he] at h;cases h
   have:=qu hr i o (by simpa using ho) hd
   rw [show s+(i+1)=s+1+i by omega];exact this
theorem Aj{es:List Nat}{all:List Oper}{t:Nat}(h:fF (cat es (b8 all)) 0 all t=true)(T:Slots):(ao es all T).get t=T.get t:=by
 obtain⟨n,r⟩:=T
 exact cF (cat es (b8 all)) all 0 n t r (fun i o ho hd=>qu h i o ho hd)
def ax(es:List Nat)(all:List Oper)(x:Operand):Bool:=match x with
 | .tmp t=>fF (cat es (b8 all)) 0 all t
 | _=>true
def du(es:List Nat)(all:List Oper):List Operand→Bool
 | []=>true
 | x::r=>cond (ax es all x) (du es all r) false
def mt(es:List Nat)(all:List Oper):List (Nat × Operand)→Bool
 | []=>true
 | x::r=>cond (ax es all x.2) (mt es all r) false
def j4(es:List Nat)(all:List Oper)(x:Option Operand):Bool:=match x with
 | none=>true
 | some x=>ax es all x
section
variable {es:List Nat} {all:List Oper} {T:Slots} {hp:Heap}
theorem aH{x:Operand}(h:ax es all x=true):ev P (ao es all T) x=ev P T x:=by
 cases x
 case tmp t=>exact Aj h T
 all_goals rfl
theorem i6:∀ {xs:List Operand},du es all xs=true→evs P (ao es all T) xs=evs P T xs
 | [],_=>rfl
 | x::r,h=>by
  unfold du at h
  cases hx:ax es all x with
  | false=>rw [hx] at h;cases h
  | true=>
   rw [hx] at h
   show ev P (ao es all T) x::evs P (ao es all T) r=ev P T x::evs P T r
   rw [aH P hx,i6 h]
theorem pB:∀ {xs:List (Nat × Operand)},mt es all xs=true→j5 P (ao es all T) xs=j5 P T xs
 | [],_=>rfl
 | x::r,h=>by
  unfold mt at h
  cases hx:ax es all x.2 with
  | false=>rw [hx] at h;cases h
  | true=>
   rw [hx] at h
   show (x.1,ev P (ao es all T) x.2)::j5 P (ao es all T) r=(x.1,ev P T x.2)::j5 P T r
   rw [aH P hx,pB h]
theorem l7{x:Option Operand}(h:j4 es all x=true):l8 P (ao es all T) x=l8 P T x:=by
 cases x with
 | none=>rfl
 | some x=>show some (ev P (ao es all T) x)=some (ev P T x);rw [aH P h]
end
def KL(es:List Nat)(all:List Oper)(c:Call):Bool:=match c.callee with
 | .value f=>and (ax es all f) (du es all c.args.toList)
 | .builtin _=>du es all c.args.toList
 | _=>false
def uH(es:List Nat)(all:List Oper)(op:Op):Bool:=match op with
 | .move x=>ax es all x
 | .assign x=>ax es all x
 | .pick c a b=>and (ax es all c) (and (ax es all a) (ax es all b))
 | .alloc _=>true
 | .box _ v=>ax es all v
 | .build _ ps=>mt es all ps.toList
 | .buildSlice _ _ ps=>mt es all ps.toList
 | .load _ a=>ax es all a
 | .store _ a v=>and (ax es all a) (ax es all v)
 | .nilCheck x=>ax es all x
 | .binOp _ _ x y _=>and (ax es all x) (ax es all y)
 | .unOp _ _ x=>ax es all x
 | .convert _ _ x=>ax es all x
 | .makeInterface _ x=>ax es all x
 | .makeFunc _ a b=>and (du es all a.toList) (du es all b.toList)
 | .makeMap _ r=>j4 es all r
 | .makeSlice _ l c=>and (ax es all l) (ax es all c)
 | .slice _ x lo hi mx=>and (ax es all x) (and (j4 es all lo) (and (j4 es all hi) (j4 es all mx)))
 | .fieldAddr _ x _=>ax es all x
 | .field _ x _=>ax es all x
 | .indexAddr _ x i=>and (ax es all x) (ax es all i)
 | .index _ x i=>and (ax es all x) (ax es all i)
 | .lookup _ x k _=>and (ax es all x) (ax es all k)
 | .mapUpdate _ m k v=>and (ax es all m) (and (ax es all k) (ax es all v))
 | .typeAssert x _ _ _=>ax es all x
 | .extract x _=>ax es all x
 | .call c=>KL es all c
 | _=>false
theorem Cf{es:List Nat}{all:List Oper}{T:Slots}{hp:Heap}{op:Op}(h:uH es all op=true):dT P op (ao es all T) hp=dT P op T hp:=by
 have and3:∀ {a b c:Bool},and a (and b c)=true→a=true∧b=true∧c=true:=fun h=>by simpa [Bool.and_eq_true] using h
 have and2:∀ {a b:Bool},and a b=true→a=true∧b=true:=fun h=>by simpa [Bool.and_eq_true] using h
 cases op
 case move x=>have h:ax es all x=true:=h;show Res.val (ev P (ao es all T) x) hp=_;rw [aH P h];rfl
 case assign x=>have h:ax es all x=true:=h;show Res.val (ev P (ao es all T) x) hp=_;rw [aH P h];rfl
 case pick c a b=>obtain⟨h1,h2,h3⟩:=and3 (show and (ax es all c) (and (ax es all a) (ax es all b))=true from h);show zP (ev P (ao es all T) c) (ev P (ao es all T) a) (ev P (ao es all T) b) hp=_;rw [aH P h1,aH P h2,aH P h3];rfl
 case alloc e=>rfl
 case box e v=>have h:ax es all v=true:=h;show vb e (ev P (ao es all T) v) hp=_;rw [aH P h];rfl
 case build t ps=>have h:mt es all ps.toList=true:=h;show ph P t (j5 P (ao es all T) ps.toList) hp=_;rw [pB P h];rfl
 case buildSlice t n ps=>have h:mt es all ps.toList=true:=h;show cJ P t n (j5 P (ao es all T) ps.toList) hp=_;rw [pB P h];rfl
 case load t a=>have h:ax es all a=true:=h;show tX P t (ev P (ao es all T) a) hp=_;rw [aH P h];rfl
 case store t a v=>obtain⟨h1,h2⟩:=and2 (show and (ax es all a) (ax es all v)=true from h);show xr P t (ev P (ao es all T) a) (ev P (ao es all T) v) hp=_;rw [aH P h1,aH P h2];rfl
 case nilCheck x=>have h:ax es all x=true:=h;show EC (ev P (ao es all T) x) hp=_;rw [aH P h];rfl
 case binOp o t x y u=>obtain⟨h1,h2⟩:=and2 (show and (ax es all x) (ax es all y)=true from h);show xq P o t (or (isC x) (isC y)) (ev P (ao es all T) x) (ev P (ao es all T) y) hp=_;rw [aH P h1,aH P h2];rfl
 case unOp o t x=>have h:ax es all x=true:=h;show xUn P o (ev P (ao es all T) x) hp=_;rw [aH P h];rfl
 case convert s d x=>have h:ax es all x=true:=h;show fw P s d (ev P (ao es all T) x) hp=_;rw [aH P h];rfl
 case makeInterface t x=>have h:ax es all x=true:=h;show cond (nV P t) (Res.val (.iface t (ev P (ao es all T) x)) hp) _=_;rw [aH P h];rfl
 case makeFunc f a b=>obtain⟨h1,h2⟩:=and2 (show and (du es all a.toList) (du es all b.toList)=true from h);show zQ f (evs P (ao es all T) a.toList) (evs P (ao es all T) b.toList) hp=_;rw [i6 P h1,i6 P h2];rfl
 case makeMap t r=>have h:j4 es all r=true:=h;show cond (mc P t (l8 P (ao es all T) r)) _ _=_;rw [l7 P h];rfl
 case makeSlice t l c=>obtain⟨h1,h2⟩:=and2 (show and (ax es all l) (ax es all c)=true from h);show dr P t (ev P (ao es all T) l) (ev P (ao es all T) c) hp=_;rw [aH P h1,aH P h2];rfl
 case slice t x lo hi mx=>
  obtain⟨h1,h2,h34⟩:=and3 (show and (ax es all x) (and (j4 es all lo) (and (j4 es all hi) (j4 es all mx)))=true from h)
  obtain⟨h3,h4⟩:=and2 h34
  show m8 P t (ev P (ao es all T) x) (l8 P (ao es all T) lo) (l8 P (ao es all T) hi) (l8 P (ao es all T) mx) hp=_
  rw [aH P h1,l7 P h2,l7 P h3,l7 P h4];rfl
 case fieldAddr s x f=>have h:ax es all x=true:=h;show ei P s f (ev P (ao es all T) x) hp=_;rw [aH P h];rfl
 case field s x f=>have h:ax es all x=true:=h;show ua P s f (ev P (ao es all T) x) hp=_;rw [aH P h];rfl
 case indexAddr t x i=>obtain⟨h1,h2⟩:=and2 (show and (ax es all x) (ax es all i)=true from h);show cL P t (ev P (ao es all T) x) (ev P (ao es all T) i) hp=_;rw [aH P h1,aH P h2];rfl
 case index t x i=>obtain⟨h1,h2⟩:=and2 (show and (ax es all x) (ax es all i)=true from h);show g7 P t (ev P (ao es all T) x) (ev P (ao es all T) i) hp=_;rw [aH P h1,aH P h2];rfl
 case lookup t x k c=>obtain⟨h1,h2⟩:=and2 (show and (ax es all x) (ax es all k)=true from h);show iN P t (ev P (ao es all T) x) (ev P (ao es all T) k) c hp=_;rw [aH P h1,aH P h2];rfl
 case mapUpdate t m k v=>obtain⟨h1,h2,h3⟩:=and3 (show and (ax es all m) (and (ax es all k) (ax es all v))=true from h);show iO P t (ev P (ao es all T) m) (ev P (ao es all T) k) (ev P (ao es all T) v) hp=_;rw [aH P h1,aH P h2,aH P h3];rfl
 case typeAssert x a b c=>have h:ax es all x=true:=h;show kV P (ev P (ao es all T) x) b c hp=_;rw [aH P h];rfl
 case extract x i=>have h:ax es all x=true:=h;show gW (ev P (ao es all T) x) i hp=_;rw [aH P h];rfl
 case call c=>
  obtain⟨cl,as,ts⟩:=c
  cases cl
  case value f=>
   obtain⟨h1,h2⟩:=and2 (show and (ax es all f) (du es all as.toList)=true from h)
   show jJ (ev P (ao es all T) f) (evs P (ao es all T) as.toList) hp=_
   rw [aH P h1,i6 P h2];rfl
  case builtin b=>
   have h:du es all as.toList=true:=h
   show cN P b ts.toList (evs P (ao es all T) as.toList) hp=_
   rw [i6 P h];rfl
  all_goals cases h
 all_goals cases h
theorem EK{es:List Nat}{all:List Oper}{op:Op}{l:Lift}(hl:cm P op=some l)(h:uH es all op=true):du es all l.xs=true:=by
 have one:∀ {x:Operand} {r:List Operand},ax es all x=true→du es all r=true→du es all (x::r)=true:=fun hx hr=>by
  show cond (ax es all _) (du es all _) false=true
  rw [hx];exact hr
 have and2:∀ {a b:Bool},and a b=true→a=true∧b=true:=fun h=>by simpa [Bool.and_eq_true] using h
 have zero:∀ {x:Option Operand},j4 es all x=true→ax es all (Gz x)=true:=fun {x} h=>by
  cases x with
  | none=>rfl
  | some x=>exact h
 cases op with
 | binOp op t x y z=>cases hl;obtain⟨h1,h2⟩:=and2 h;exact one h1 (one h2 rfl)
 | unOp op t x=>cases hl;exact one h rfl
 | convert s d x=>
  have hl:cond (zV P d) none (some (⟨[x],wt P s d,qn P s d⟩:Lift))=some l:=hl
  cases hsl:zV P d with
  | true=>rw [hsl] at hl;cases hl
  | false=>rw [hsl] at hl;cases hl;exact one h rfl
 | index t x i=>cases hl;obtain⟨h1,h2⟩:=and2 h;exact one h1 (one h2 rfl)
 | load t x=>cases hl;exact one h rfl
 | lookup t x k c=>cases hl;obtain⟨h1,h2⟩:=and2 h;exact one h1 (one h2 rfl)
 | indexAddr t x i=>cases hl;obtain⟨h1,h2⟩:=and2 h;exact one h1 (one h2 rfl)
 | slice t x lo hi mx=>
  cases mx with
  | some _=>cases hl
  | none=>
   cases hl
   obtain⟨h1,h2⟩:=and2 (show and (ax es all x) (and (j4 es all lo) (and (j4 es all hi) true))=true from h)
   obtain⟨h2,h3⟩:=and2 h2
   obtain⟨h3,_⟩:=and2 h3
   exact one h1 (one (zero h2) (one (zero h3) rfl))
 | call c=>
  obtain⟨callee,args,ts⟩:=c
  cases callee with
  | builtin b=>cases b<;>first | (cases hl;exact h) | cases hl
  | _=>cases hl
 | _=>cases hl
theorem Cg{es:List Nat}{all:List Oper}{T:Slots}{hp:Heap}{op:Op}(h:uH es all op=true):gX P op (ao es all T) hp=gX P op T hp:=by
 show g9 P (cm P op) (ao es all T) hp (dT P op (ao es all T) hp)=g9 P (cm P op) T hp (dT P op T hp)
 rw [Cf P h]
 cases hl:cm P op with
 | none=>rfl
 | some l=>
  show gr P l (ao es all T) hp _=gr P l T hp _
  unfold gr
  rw [i6 P (EK P hl h)]
theorem uI{es:List Nat}{all:List Oper}{T:Slots}{hp:Heap}{op:Op}(h:uH es all op=true):c9 P op (ao es all T) hp=c9 P op T hp:=by
 unfold c9;rw [Cg P h]
def H7(es:List Nat)(all:List Oper)(g:Option (Nat × Bool))(d:Option Nat):Bool:=match g,d with
 | none,_=>true
 | some _,none=>true
 | some _,some d=>fF (cat es (b8 all)) 0 all d
def J7(all:List Oper)(g:Option (Nat × Bool)):Option Nat:=Option.rec (motive:=fun _=>Option Nat) none (fun g=>hI all g.1) g
theorem Ak{es:List Nat}{all:List Oper}{T:Slots}{g:Option (Nat × Bool)}(h:H7 es all g (J7 all g)=true):bd g all (ao es all T)=bd g all T:=by
 cases g with
 | none=>rfl
 | some g=>
  have h:H7 es all (some g) (hI all g.1)=true:=h
  show Option.rec (motive:=fun _=>Option Bool) none (fun d=>mg ((ao es all T).get d) g.2) (hI all g.1)=Option.rec (motive:=fun _=>Option Bool) none (fun d=>mg (T.get d) g.2) (hI all g.1)
  cases hd:hI all g.1 with
  | none=>rfl
  | some d=>
   rw [hd] at h
   have h:fF (cat es (b8 all)) 0 all d=true:=h
   show mg ((ao es all T).get d) g.2=mg (T.get d) g.2
   rw [Aj h]
def wB(all:List Oper)(o:Oper):Bool:=and (uH (ah o) all o.op) (H7 (ah o) all o.guard (J7 all o.guard))
variable [Hook]
inductive CB where | no | b (n:Nat) (c:Code) | m (k:Nat)
def cbK(s:Nat):CB:=match s with
 | n+3=>.m n
 | _=>.no
def cb2(f:Nat)(c:Code):CB:=ak (cY P f) (fun n=>.b n c)
def Dy(f:Nat):CB:=Nat.rec (motive:=fun _=>CB) (Option.rec (motive:=fun _=>CB) .no (cb2 P f) (bodyOf P f)) (fun s _=>cbK s) (bJ f)
def JL(l:List AV):Nat→Nat:=List.rec (motive:=fun _=>Nat→Nat) (fun a=>a) (fun _ _ ih a=>ih (Nat.add a 1)) l
omit [Hook] in
theorem Dz:∀ (l:List AV) (a:Nat),JL l a=a+len l
 | [],a=>rfl
 | _::r,a=>by show JL r (Nat.add a 1)=_;rw [Dz r];show a+1+len r=a+(len r+1);omega
def enK(f:Nat)(fr:AFrame)(cs:List AFrame)(h:Heap)(n:Nat)(c:Code)(t:ST):St:=.go ⟨n,t⟩ [.code c] (.mk f [] .normal (fr::cs)) h
def enB(f:Nat)(args:List AV)(fr:AFrame)(cs:List AFrame)(h:Heap)(n:Nat)(c:Code):St:=Bool.rec (motive:=fun _=>St) (.bad "enter") (Dr args ST.nil 0 (enK f fr cs h n c)) (Nat.ble (JL args 0) n)
def H8(y:AV)(x:AV)(l c:Nat):Bool:=SR.rec (motive:=fun _=>Bool) (gt x y) (fun l' c'=>Bool.rec (motive:=fun _=>Bool) false (Nat.beq l l') (Nat.beq c c')) y.sr
def Ij(x y:AV):Bool:=SR.rec (motive:=fun _=>Bool) (gt x y) (H8 y x) x.sr
omit [Hook] in
theorem Ik(x y:AV):Ij x y=gt x y:=by
 unfold Ij
 cases hx:x.sr with
 | no=>rfl
 | s l c=>
  show H8 y x l c=_
  unfold H8
  cases hy:y.sr with
  | no=>rfl
  | s l' c'=>
   rw [AV.sr_is hx,AV.sr_is hy]
   show Bool.rec (motive:=fun _=>Bool) false (Nat.beq l l') (Nat.beq c c')=and (Nat.beq l l') (Nat.beq c c')
   cases Nat.beq c c'<;>cases Nat.beq l l'<;>rfl
def JM(a:AV)(ih:List AV→Bool)(b:AV)(y:List AV)(_:Bool):Bool:=Bool.rec (motive:=fun _=>Bool) false (ih y) (Ij a b)
def JN(a:AV)(_:List AV)(ih:List AV→Bool)(y:List AV):Bool:=List.rec (motive:=fun _=>Bool) false (JM a ih) y
def DA(x:List AV):List AV→Bool:=List.rec (motive:=fun _=>List AV→Bool) (fun y=>List.rec (motive:=fun _=>Bool) true (fun _ _ _=>false) y) JN x
omit [Hook] in
theorem Al:∀ (x y:List AV),DA x y=iQ x y
 | [],[]=>rfl
 | [],_::_=>rfl
 | _::_,[]=>rfl
 | a::x,b::y=>by
  show Bool.rec (motive:=fun _=>Bool) false (DA x y) (Ij a b)=cond (gt a b) (iQ x y) false
  rw [Ik,Al x y]
  cases gt a b<;>rfl
def KM(args:List AV)(p:Row)(_:List Row)(ih:Option Row):Option Row:=Bool.rec (motive:=fun _=>Option Row) ih (some p) (DA p.args args)
def H9(args:List AV)(t:List Row):Option Row:=List.rec (motive:=fun _=>Option Row) none (KM args) t
omit [Hook] in
theorem Am(args:List AV):∀ t:List Row,H9 args t=c8 args t
 | []=>rfl
 | p::r=>by
  show Bool.rec (motive:=fun _=>Option Row) (H9 args r) (some p) (DA p.args args)=cond (iQ p.args args) (some p) (c8 args r)
  rw [Al,Am args r]
  cases iQ p.args args<;>rfl
def KN(ih:Heap→(Heap→St)→St)(k:Heap→St)(h:Heap):St:=ih h k
def LD(p:Key × AObj)(_:List (Key × AObj))(ih:Heap→(Heap→St)→St)(h:Heap)(k:Heap→St):St:=GX h p.1 p.2 (KN ih k)
def DB(objs:List (Key × AObj)):Heap→(Heap→St)→St:=List.rec (motive:=fun _=>Heap→(Heap→St)→St) (fun h k=>k h) LD objs
omit [Hook] in
theorem An:∀ (objs:List (Key × AObj)) (h:Heap) (k:Heap→St),DB objs h k=k (bp objs h)
 | [],h,k=>rfl
 | p::r,h,k=>by
  show GX h p.1 p.2 (KN (DB r) k)=_
  rw [Ds]
  exact An r (h.put p.1 p.2) k
def Il(fr:AFrame)(v:AV)(cs:List AFrame)(h:Heap):St:=finish fr v cs h
def JO(w:St)(fr:AFrame)(cs:List AFrame)(h:Heap)(r:Row):St:=Bool.rec (motive:=fun _=>St) w (DB r.objs h (Il fr r.val cs)) (eP h r.objs)
def enM(f:Nat)(args:List AV)(fr:AFrame)(cs:List AFrame)(h:Heap)(k:Nat):St:=Option.rec (motive:=fun _=>St) (dP P f args fr cs h) (JO (dP P f args fr cs h) fr cs h) (H9 args (Hook.tab k args))
def enF(f:Nat)(args:List AV)(fr:AFrame)(cs:List AFrame)(h:Heap):St:=CB.rec (motive:=fun _=>St) (dP P f args fr cs h) (enB f args fr cs h) (enM P f args fr cs h) (Dy P f)
theorem JP(f:Nat)(args:List AV)(fr:AFrame)(cs:List AFrame)(h:Heap):enF P f args fr cs h=dP P f args fr cs h:=by
 unfold enF
 cases hc:Dy P f with
 | no=>rfl
 | m k=>
  unfold Dy at hc
  show enM P f args fr cs h k=_
  cases hk:bJ f with
  | zero=>
   rw [hk] at hc
   have hc:Option.rec (motive:=fun _=>CB) .no (cb2 P f) (bodyOf P f)=CB.m k:=hc
   cases hb:bodyOf P f with
   | none=>rw [hb] at hc;exact nomatch (show CB.no=CB.m k from hc)
   | some c'=>
    rw [hb] at hc
    have hc:ak (cY P f) (fun n=>CB.b n c')=CB.m k:=hc
    rw [bf] at hc
    cases hc
  | succ s=>
   rw [hk] at hc
   have hc:cbK s=CB.m k:=hc
   match s,hc with
   | 0,hc=>cases hc
   | 1,hc=>cases hc
   | 2,hc=>cases hc
   | n+3,hc=>
    have hc:CB.m n=CB.m k:=hc
    injection hc with hc
    subst hc
    unfold enM
    rw [Am]
    cases hf:c8 args (Hook.tab n args) with
    | none=>rfl
    | some r=>
     show JO (dP P f args fr cs h) fr cs h r=_
     unfold JO
     cases hfr:eP h r.objs with
     | false=>rfl
     | true=>
      show DB r.objs h (Il fr r.val cs)=_
      rw [An]
      unfold dP
      rw [hk]
      show Il fr r.val cs (bp r.objs h)=jO P f args fr cs h (xL (wu (Hook.tab n args) args h) (Hook.prim n args h))
      unfold wu
      rw [hf]
      show Il fr r.val cs (bp r.objs h)=jO P f args fr cs h (xL (cond (eP h r.objs) (some (r.val,bp r.objs h)) none) (Hook.prim n args h))
      rw [hfr];rfl
 | b n c=>
  unfold Dy at hc
  show enB f args fr cs h n c=_
  unfold dP
  cases hk:bJ f with
  | succ s=>
   rw [hk] at hc
   have hc:cbK s=CB.b n c:=hc
   match s,hc with
   | 0,hc=>cases hc
   | 1,hc=>cases hc
   | 2,hc=>cases hc
   | n+3,hc=>cases hc
  | zero=>
   rw [hk] at hc
   have hc:Option.rec (motive:=fun _=>CB) .no (cb2 P f) (bodyOf P f)=CB.b n c:=hc
   show enB f args fr cs h n c=Option.rec (motive:=fun _=>St) (o9 P f args fr cs h) (enter P f args .normal (fr::cs) h) (bodyOf P f)
   cases hb:bodyOf P f with
   | none=>rw [hb] at hc;exact nomatch (show CB.no=CB.b n c from hc)
   | some c'=>
    rw [hb] at hc
    have hc:ak (cY P f) (fun n=>CB.b n c')=CB.b n c:=hc
    rw [bf] at hc
    injection hc with h1 h2
    subst h1;subst h2
    show enB f args fr cs h (cY P f) c'=cond (Nat.ble (len args) (cY P f)) (.go (.mk (cY P f) (gY args .nil 0)) [.code c'] (.mk f [] .normal (fr::cs)) h) (.bad "enter")
    unfold enB
    rw [Ae,Dz,Nat.zero_add]
    cases Nat.ble (len args) (cY P f)<;>rfl
def uE1(T:Slots)(k:List AItem)(f:Nat)(args:List AV)(h:Heap)(fn:Nat)(ds:List ADef)(fk:FK)(cs:List AFrame):St:=enF P f args (.mk fn T k ds .run fk) cs h
def uE(T:Slots)(k:List AItem)(c:Ctx)(f:Nat)(args:List AV)(h:Heap):St:=Ctx.rec (motive:=fun _=>St) (uE1 P T k f args h) c
theorem KO(T:Slots)(k:List AItem)(c:Ctx)(f:Nat)(args:List AV)(h:Heap):uE P T k c f args h=GE P f args h T k c:=by
 obtain⟨fn,ds,fk,cs⟩:=c
 exact JP P f args (.mk fn T k ds .run fk) cs h
def uR(T:Slots)(k:List AItem)(c:Ctx)(l:Key)(args:List AV)(h:Heap):St:=GG P l args h T k c
def uD(T:Slots)(k:List AItem)(c:Ctx)(d:ADef)(h:Heap):St:=GF d h T k c
def uV(T:Slots)(k:List AItem)(c:Ctx)(h:Heap):St:=zZ h T k c
def uP(T:Slots)(k:List AItem)(c:Ctx)(v:AV)(h:Heap):St:=Kk v h T k c
def uA(T:Slots)(k:List AItem)(c:Ctx)(l:List (AV × Heap)):St:=.alt l T k c
def Ha(r:Res)(T:Slots)(k:List AItem)(c:Ctx)(next:AV→Heap→St):St:=
 Res.rec (motive:=fun _=>St) next (uE P T k c) (uR P T k c) (uD T k c) (uV T k c) (uP T k c) (uA T k c) St.bad r
theorem Ao(r:Res)(T:Slots)(k:List AItem)(c:Ctx)(next:AV→Heap→St):Ha P r T k c next=EG P r T k c next:=by
 cases r
 case enter f args h=>exact KO P T k c f args h
 all_goals rfl
structure RB where
 f:List AItem→Ctx→Slots→Heap→St
def KR(k:List AItem)(c:Ctx)(T:Slots)(h:Heap):St:=.go T k c h
def KS(w:String)(_:List AItem)(_:Ctx)(_:Slots)(_:Heap):St:=.bad w
def kR'(ih:RB)(k:List AItem)(c:Ctx)(T:Slots)(h:Heap):St:=ih.f k c T h
def kN'(ih:RB)(k:List AItem)(c:Ctx)(h:Heap)(n:Nat)(t:ST):St:=ih.f k c ⟨n,t⟩ h
def pN(ih:RB)(k:List AItem)(c:Ctx)(h:Heap)(d:Nat)(v:AV)(n:Nat)(t:ST):St:=Bool.rec (motive:=fun _=>St) (.bad "slot") ((pb d).f v t (kN' ih k c h n)) (Nat.blt d n)
def wC(ih:RB)(k:List AItem)(c:Ctx)(T:Slots)(d:Nat)(v:AV)(h:Heap):St:=Slots.rec (motive:=fun _=>St) (pN ih k c h d v) T
omit [Hook] in
theorem Ap(ih:RB)(k:List AItem)(c:Ctx)(T:Slots)(d:Nat)(v:AV)(h:Heap):wC ih k c T d v h=hG T (some d) v (fun T=>ih.f k c T h):=by
 obtain⟨n,t⟩:=T
 show Bool.rec (motive:=fun _=>St) (.bad "slot") ((pb d).f v t (kN' ih k c h n)) (Nat.blt d n)=cond (Nat.blt d n) (ih.f k c ⟨n,t.set v (keyOf d)⟩ h) (.bad "slot")
 rw [GW]
 cases Nat.blt d n<;>rfl
def Hb(it:AItem)(ih:RB)(k:List AItem)(c:Ctx)(T:Slots)(d:Nat)(r:Res):St:=Ha P r T (it::k) c (wC ih k c T d)
def Ch(it:AItem)(ih:RB)(d:Nat)(x:XB)(k:List AItem)(c:Ctx)(T:Slots)(h:Heap):St:=x.f T h (wC ih k c T d) (Hb P it ih k c T d)
def Hc(ih:RB)(k:List AItem)(c:Ctx)(T:Slots)(_:AV)(h:Heap):St:=ih.f k c T h
def Hd(it:AItem)(ih:RB)(k:List AItem)(c:Ctx)(T:Slots)(r:Res):St:=Ha P r T (it::k) c (Hc ih k c T)
def Ci(it:AItem)(ih:RB)(x:XB)(k:List AItem)(c:Ctx)(T:Slots)(h:Heap):St:=x.f T h (Hc ih k c T) (Hd P it ih k c T)
def LE(it:AItem)(x:XB)(ih:RB)(d:Nat):RB:=⟨Ch P it ih d x⟩
def He(it:AItem)(x:XB)(ih:RB)(d:Option Nat):RB:=Option.rec (motive:=fun _=>RB) ⟨Ci P it ih x⟩ (LE P it x ih) d
def skD(ih:RB)(d:Nat):RB:=⟨fun k c T h=>wC ih k c T d .undef h⟩
def skR(ih:RB)(d:Option Nat):RB:=Option.rec (motive:=fun _=>RB) ih (skD ih) d
def gdB(x y:RB)(k:List AItem)(c:Ctx)(T:Slots)(h:Heap)(b:Bool):St:=(Bool.rec (motive:=fun _=>RB) x y b).f k c T h
def gdF(all:List Oper)(g:Option (Nat × Bool))(x y:RB)(k:List AItem)(c:Ctx)(T:Slots)(h:Heap):St:=Option.rec (motive:=fun _=>St) (.bad "guard") (gdB x y k c T h) (bd g all T)
def EL(all:List Oper)(it:AItem)(o:Oper)(x:XB)(ih:RB):RB:=Option.rec (motive:=fun _=>RB) (He P it x ih o.dst) (fun _=>⟨gdF all o.guard (skR ih o.dst) (He P it x ih o.dst)⟩) o.guard
theorem DC(it:AItem){x:XB}{g:XF}(hx:gz x.f g)(ih:RB)(d:Option Nat)(k:List AItem)(c:Ctx)(T:Slots)(h:Heap):(He P it x ih d).f k c T h=EG P (g T h) T (it::k) c (fun v h=>hG T d v (fun T=>ih.f k c T h)):=by
 unfold He
 cases d with
 | none=>
  show Ci P it ih x k c T h=_
  unfold Ci
  rw [hx T h (Hc ih k c T) (Hd P it ih k c T) (fun v h=>rfl)]
  unfold Hd
  rw [Ao]
  rfl
 | some d=>
  show Ch P it ih d x k c T h=_
  unfold Ch
  have hn:wC ih k c T d=(fun v h=>hG T (some d) v (fun T=>ih.f k c T h)):=by funext v h;exact Ap ih k c T d v h
  rw [hx T h (wC ih k c T d) (Hb P it ih k c T d) (fun v h=>rfl)]
  unfold Hb
  rw [Ao,hn]
omit [Hook] in
theorem JQ(ih:RB)(d:Option Nat)(k:List AItem)(c:Ctx)(T:Slots)(h:Heap):(skR ih d).f k c T h=hG T d .undef (fun T=>ih.f k c T h):=by
 cases d with
 | none=>rfl
 | some d=>exact Ap ih k c T d .undef h
theorem DD(all:List Oper)(it:AItem)(o:Oper){x:XB}{g:XF}(hx:gz x.f g)(ih:RB)(k:List AItem)(c:Ctx)(T:Slots)(h:Heap):(EL P all it o x ih).f k c T h=Option.rec (motive:=fun _=>St) (.bad "guard") (fun b=>Bool.rec (motive:=fun _=>St) (hG T o.dst .undef (fun T=>kR' ih k c T h)) (EG P (g T h) T (it::k) c (fun v h=>hG T o.dst v (fun T=>kR' ih k c T h))) b) (bd o.guard all T):=by
 unfold EL
 cases hg:o.guard with
 | none=>exact DC P it hx ih o.dst k c T h
 | some gd=>
  show Option.rec (motive:=fun _=>St) (.bad "guard") (gdB (skR ih o.dst) (He P it x ih o.dst) k c T h) (bd (some gd) all T)=_
  cases bd (some gd) all T with
  | none=>rfl
  | some b=>cases b with
   | false=>exact JQ ih o.dst k c T h
   | true=>exact DC P it hx ih o.dst k c T h
def LF(all:List Oper)(o:Oper)(rest:List Oper)(ih:RB):RB:=EL P all (.ops all (o::rest)) o (Dx P o.op) ih
def Hf(all rest:List Oper):RB:=List.rec (motive:=fun _=>RB) ⟨KR⟩ (LF P all) rest
theorem yd(all:List Oper)(k:List AItem)(c:Ctx):∀ (rest:List Oper) (T:Slots) (h:Heap),(Hf P all rest).f k c T h=gc P all k c rest T h
 | [],T,h=>rfl
 | o::rest,T,h=>by
  have ih:=yd all k c rest
  have hk:kR' (Hf P all rest) k c=gc P all k c rest:=by funext T h;exact ih T h
  show (EL P all (.ops all (o::rest)) o (Dx P o.op) (Hf P all rest)).f k c T h=Dl P o (.ops all (o::rest)) k c T T h (gc P all k c rest) (bd o.guard all T)
  rw [DD P all _ o (uF P o.op),hk]
  rfl
def Hg(k:IntKind)(a:Int)(k':IntKind)(b:Int):Bool:=Bool.rec (motive:=fun _=>Bool) false (eqI a b) (Nat.beq (kNo k) (kNo k'))
def JR(y:AV)(k:IntKind)(a:Int):Bool:=IR.rec (motive:=fun _=>Bool) false (Hg k a) y.ir
def DE(x y:AV):Bool:=IR.rec (motive:=fun _=>Bool) false (JR y) x.ir
omit [Hook] in
theorem Hh{x y:AV}(h:DE x y=true):fA 60 x y=true:=by
 unfold DE at h
 cases hx:x.ir with
 | no=>rw [hx] at h;cases h
 | i k a=>
  rw [hx] at h
  have h:IR.rec (motive:=fun _=>Bool) false (Hg k a) y.ir=true:=h
  cases hy:y.ir with
  | no=>rw [hy] at h;cases h
  | i k' b=>
   rw [hy] at h
   have h:Bool.rec (motive:=fun _=>Bool) false (eqI a b) (Nat.beq (kNo k) (kNo k'))=true:=h
   rw [AV.ir_is hx,AV.ir_is hy]
   show and (Nat.beq (aj k) (aj k')) (bO a b)=true
   rw [xU,xU,C4] at h
   cases hb:Nat.beq (aj k) (aj k') with
   | false=>rw [hb] at h;cases h
   | true=>rw [hb] at h;exact h
def Im(x y:AV):Bool:=Bool.rec (motive:=fun _=>Bool) (fA 60 x y) true (DE x y)
omit [Hook] in
theorem In(x y:AV):Im x y=fA 60 x y:=by
 unfold Im
 cases hq:DE x y with
 | false=>rfl
 | true=>exact (Hh hq).symm
def chB(ih:RB)(k:List AItem)(c:Ctx)(T:Slots)(h:Heap)(b:Bool):St:=Bool.rec (motive:=fun _=>St) (.bad "an order that matters") (ih.f k c T h) b
def chN(ih:RB)(k:List AItem)(c:Ctx)(T:Slots)(h:Heap)(d:Nat)(v:AV)(_:Heap):St:=chB ih k c T h (Im v (T.get d))
def chS(ih:RB)(k:List AItem)(c:Ctx)(T:Slots)(h:Heap)(d:Nat)(r:Res):St:=chB ih k c T h (same r (T.get d))
def chF(o:Oper)(ih:RB)(d:Nat)(k:List AItem)(c:Ctx)(T:Slots)(h:Heap):St:=(uG P o.op).f T h (chN ih k c T h d) (chS ih k c T h d)
def chO(all:List Oper)(ih:RB)(o:Oper)(k:List AItem)(c:Ctx)(T:Slots)(h:Heap):St:=cond (A0 P o all T h) (ih.f k c T h) (.bad "an order that matters")
def ch2(all:List Oper)(ih:RB)(o:Oper)(d:Option Nat):RB:=Option.rec (motive:=fun _=>RB) ⟨chO P all ih o⟩ (fun d=>⟨chF P o ih d⟩) d
def ch1(all:List Oper)(ih:RB)(o:Oper)(g:Option (Nat × Bool)):RB:=Option.rec (motive:=fun _=>RB) (ch2 P all ih o o.dst) (fun _=>⟨chO P all ih o⟩) g
def ch0(all:List Oper)(ih:RB)(o:Oper):RB:=Bool.rec (motive:=fun _=>RB) ⟨chO P all ih o⟩ (ch1 P all ih o o.guard) (wB all o)
omit [Hook] in
theorem JS(all:List Oper)(ih:RB)(o:Oper)(k:List AItem)(c:Ctx)(T:Slots)(h:Heap):(ch0 P all ih o).f k c T h=chO P all ih o k c T h:=by
 unfold ch0
 cases hf:wB all o with
 | false=>rfl
 | true=>
  show (ch1 P all ih o o.guard).f k c T h=_
  unfold ch1
  cases hg:o.guard with
  | some g=>rfl
  | none=>
   show (ch2 P all ih o o.dst).f k c T h=_
   unfold ch2
   cases hd:o.dst with
   | none=>rfl
   | some d=>
    show (uG P o.op).f T h (chN ih k c T h d) (chS ih k c T h d)=_
    have hs:∀ v h',chS ih k c T h d (Res.val v h')=chN ih k c T h d v h':=fun v h'=>by
     show chB ih k c T h (fA 60 v (T.get d))=chB ih k c T h (Im v (T.get d))
     rw [In]
    rw [qt P o.op T h _ _ hs]
    unfold wB at hf
    simp only [Bool.and_eq_true] at hf
    have e:A0 P o all T h=same (c9 P o.op T h) (T.get d):=by
     unfold A0
     rw [hd,hg]
     show same (c9 P o.op (ao (ah o) all T) h) (T.get d)=_
     rw [uI P hf.1]
    unfold chO
    rw [e]
    show chB ih k c T h (same (c9 P o.op T h) (T.get d))=_
    unfold chB
    cases same (c9 P o.op T h) (T.get d)<;>rfl
def LG(all:List Oper)(rest:List PStep)(i:Nat)(ih:RB)(o:Oper)(k:List AItem)(c:Ctx)(T:Slots)(h:Heap):St:=opM P o (.dops all (.op i::rest)) all k c T h (kR' ih k c) (ao (ah o) all T)
def op0(all:List Oper)(rest:List PStep)(i:Nat)(ih:RB)(o:Oper):RB:=Bool.rec (motive:=fun _=>RB) ⟨LG P all rest i ih o⟩ (EL P all (.dops all (.op i::rest)) o (uG P o.op) ih) (wB all o)
theorem JT(all:List Oper)(rest:List PStep)(i:Nat)(ih:RB)(o:Oper)(k:List AItem)(c:Ctx)(T:Slots)(h:Heap):(op0 P all rest i ih o).f k c T h=opM P o (.dops all (.op i::rest)) all k c T h (kR' ih k c) (ao (ah o) all T):=by
 unfold op0
 cases hf:wB all o with
 | false=>rfl
 | true=>
  show (EL P all (.dops all (.op i::rest)) o (uG P o.op) ih).f k c T h=xO P o (.dops all (.op i::rest)) k c (ao (ah o) all T) T h (kR' ih k c) (bd o.guard all (ao (ah o) all T))
  unfold wB at hf
  simp only [Bool.and_eq_true] at hf
  rw [DD P all _ o (qt P o.op),Ak hf.2]
  unfold xO
  rw [uI P hf.1]
def opB(all:List Oper)(rest:List PStep)(ih:RB)(i:Nat):RB:=Option.rec (motive:=fun _=>RB) ⟨KS "plan"⟩ (op0 P all rest i ih) (iP all i)
def JU(all:List Oper)(ih:RB)(i:Nat):RB:=Option.rec (motive:=fun _=>RB) ⟨KS "plan"⟩ (ch0 P all ih) (iP all i)
def plS(all:List Oper)(s:PStep)(rest:List PStep)(ih:RB):RB:=PStep.rec (motive:=fun _=>RB) (opB P all rest ih) (JU P all ih) s
def qv(all:List Oper)(plan:List PStep):RB:=List.rec (motive:=fun _=>RB) ⟨KR⟩ (plS P all) plan
theorem uJ(all:List Oper)(k:List AItem)(c:Ctx):∀ (plan:List PStep) (T:Slots) (h:Heap),(qv P all plan).f k c T h=ca P all k c plan T h
 | [],T,h=>rfl
 | s::rest,T,h=>by
  have ih:=uJ all k c rest
  have hk:kR' (qv P all rest) k c=ca P all k c rest:=by funext T h;exact ih T h
  cases s with
  | op i=>
   show (opB P all rest (qv P all rest) i).f k c T h=opD P i rest all k c T h (ca P all k c rest)
   unfold opB opD
   cases iP all i with
   | none=>rfl
   | some o=>show (op0 P all rest i (qv P all rest) o).f k c T h=_;rw [JT,hk]
  | chk i=>
   show (JU P all (qv P all rest) i).f k c T h=GH P i all T h (ca P all k c rest)
   unfold JU GH
   cases iP all i with
   | none=>rfl
   | some o=>show (ch0 P all (qv P all rest) o).f k c T h=cond (A0 P o all T h) (ca P all k c rest T h) _;rw [JS,←ih];rfl
structure SB where
 f:SF
def KT:SB:=⟨lC⟩
def rgF(all:List Oper):SF:=fun T k c h=>(Hf P all all).f k c T h
def plF(all:List Oper)(p:List PStep):SF:=fun T k c h=>(qv P all p).f k c T h
def LH:SF:=fun _ _ _ _=>.bad "no plan"
def plB(all:List Oper)(p:List PStep):SB:=⟨plF P all p⟩
def Hj(all:List Oper):SB:=Option.rec (motive:=fun _=>SB) ⟨LH⟩ (plB P all) (mo P all)
def Io(_:Nat)(ops:Array Oper)(draw:Bool):SB:=Bool.rec (motive:=fun _=>SB) ⟨rgF P ops.toList⟩ (Hj P ops.toList) draw
def sqF(b:Code)(a:SB):SF:=fun T k c h=>a.f T (.code b::k) c h
def LI(_ b:Code)(a _:SB):SB:=⟨sqF b a⟩
def cdB(a b:SB)(T:Slots)(k:List AItem)(c:Ctx)(h:Heap)(t:Bool):St:=(Bool.rec (motive:=fun _=>SB) b a t).f T k c h
def cdF(g:Slots→AV)(a b:SB):SF:=fun T k c h=>BR.rec (motive:=fun _=>St) (.bad "cond") (cdB a b T k c h) (g T).br
def KU(x:Operand)(_ _:Code)(a b:SB):SB:=⟨cdF (opd P x).g a b⟩
def blF(id:Nat)(b:SB):SF:=fun T k c h=>b.f T (.inBlock id::k) c h
def JV(id:Nat)(_:Code)(b:SB):SB:=⟨blF id b⟩
def KV(b:Code)(_:SB):SB:=⟨IS b lC⟩
def JW(b:Code)(_:SB):SB:=⟨GI b lC⟩
def JX(f:Operand)(ps:Array Nat)(a b:Code)(_ _:SB):SB:=⟨GJ P f ps a b lC lC⟩
def KW(id:Nat):SB:=⟨IP id⟩
def JY(_:Nat):SB:=⟨lC⟩
def KX(l:Nat):SB:=⟨IQ l⟩
def LJ:SB:=⟨Km⟩
def Ip(w:String):SB:=⟨Dm w⟩
def DF(c:Code):SB:=Code.rec (motive:=fun _=>SB) KT (Io P) LI (KU P) JV KV (JX P) KW JW JY KX LJ Ip c
theorem Hk(c:Code):(DF P c).f=fD P c:=by
 induction c with
 | region id ops draw=>
  cases draw with
  | true=>
   funext T k c h
   show (Hj P ops.toList).f T k c h=xP P (mo P ops.toList) ops.toList T k c h
   unfold Hj xP
   cases mo P ops.toList with
   | none=>rfl
   | some p=>exact uJ P ops.toList k c p T h
  | false=>funext T k c h;exact yd P ops.toList k c ops.toList T h
 | seq a b iha ihb=>funext T k c h;exact congrFun (congrFun (congrFun (congrFun iha T) (.code b::k)) c) h
 | cond x a b iha ihb=>
  funext T k c h
  show BR.rec (motive:=fun _=>St) (.bad "cond") (cdB (DF P a) (DF P b) T k c h) ((opd P x).g T).br=(match ev P T x with
   | .bool t=>Bool.rec (motive:=fun _=>St) (fD P b T k c h) (fD P a T k c h) t
   | _=>.bad "cond")
  rw [gw]
  generalize ev P T x=v
  cases v
  case bool t=>
   cases t with
   | true=>exact congrFun (congrFun (congrFun (congrFun iha T) k) c) h
   | false=>exact congrFun (congrFun (congrFun (congrFun ihb T) k) c) h
  all_goals rfl
 | block id b ih=>funext T k c h;exact congrFun (congrFun (congrFun (congrFun ih T) (.inBlock id::k)) c) h
 | _=>rfl
def cdI(c:Code):SF:=(DF P c).f
def opI(all rest:List Oper):SF:=fun T k c h=>(Hf P all rest).f k c T h
def dpI(all:List Oper)(plan:List PStep):SF:=fun T k c h=>(qv P all plan).f k c T h
def ye(it:AItem):SF:=AItem.rec (motive:=fun _=>SF) (cdI P) GK IU GL (opI P) (dpI P) GM I8 xS it
theorem Cj(it:AItem):ye P it=Aa P it:=by
 cases it with
 | code c=>exact Hk P c
 | ops all rest=>funext T k c h;exact yd P all k c rest T h
 | dops all plan=>funext T k c h;exact uJ P all k c plan T h
 | _=>rfl
def goC(T:Slots)(c:Ctx)(h:Heap)(it:AItem)(k:List AItem)(_:St):St:=ye P it T k c h
def oh(T:Slots)(k:List AItem)(c:Ctx)(h:Heap):St:=List.rec (motive:=fun _=>St) (leave T c h) (goC P T c h) k
theorem Ck(T:Slots)(k:List AItem)(c:Ctx)(h:Heap):oh P T k c h=xT P T k c h:=by
 cases k with
 | nil=>rfl
 | cons it k=>show ye P it T k c h=_;rw [Cj];rfl
inductive IV where | no | o (all rest:List Oper) | d (all:List Oper) (plan:List PStep)
def KY(it:AItem):IV:=AItem.rec (motive:=fun _=>IV) (fun _=>.no) (fun _=>.no) (fun _=>.no) (fun _=>.no) (fun a r=>.o a r) (fun a p=>.d a p) (fun _=>.no) (fun _=>.no) .no it
def psI(s:PStep):Option Nat:=PStep.rec (motive:=fun _=>Option Nat) (fun i=>some i) (fun _=>none) s
def fgo(it:AItem)(k:List AItem)(c:Ctx)(h:Heap)(n:Nat)(t:ST):St:=.go ⟨n,t⟩ (it::k) c h
def LK(it:AItem)(k:List AItem)(c:Ctx)(h:Heap)(v:AV)(d:Nat)(n:Nat)(t:ST):St:=Bool.rec (motive:=fun _=>St) (.bad "slot") ((pb d).f v t (fgo it k c h n)) (Nat.blt d n)
def KZ(it:AItem)(k:List AItem)(c:Ctx)(h:Heap)(v:AV)(T:Slots)(d:Nat):St:=Slots.rec (motive:=fun _=>St) (LK it k c h v d) T
def Hl(it:AItem)(k:List AItem)(c:Ctx)(h:Heap)(v:AV)(T:Slots)(d:Option Nat):St:=Option.rec (motive:=fun _=>St) (.go T (it::k) c h) (KZ it k c h v T) d
omit [Hook] in
theorem Aq(it:AItem)(k:List AItem)(c:Ctx)(h:Heap)(v:AV)(T:Slots)(d:Option Nat):Hl it k c h v T d=hG T d v (fun T=>.go T (it::k) c h):=by
 cases d with
 | none=>rfl
 | some d=>
  obtain⟨n,t⟩:=T
  show Bool.rec (motive:=fun _=>St) (.bad "slot") ((pb d).f v t (fgo it k c h n)) (Nat.blt d n)=cond (Nat.blt d n) (.go ⟨n,t.set v (keyOf d)⟩ (it::k) c h) (.bad "slot")
  rw [GW]
  cases Nat.blt d n<;>rfl
def L3(v:AV)(h:Heap)(T:Slots)(k:List AItem)(c:Ctx)(all:List Oper)(o:Oper)(rest:List Oper)(_:St):St:=Hl (.ops all rest) k c h v T o.dst
def LL(v:AV)(h:Heap)(T:Slots)(k:List AItem)(c:Ctx)(w:St)(all rest:List Oper):St:=List.rec (motive:=fun _=>St) w (L3 v h T k c all) rest
def L4(v:AV)(h:Heap)(T:Slots)(k:List AItem)(c:Ctx)(all:List Oper)(plan:List PStep)(i:Nat):St:=Hl (.dops all plan) k c h v T (hI all i)
def L5(v:AV)(h:Heap)(T:Slots)(k:List AItem)(c:Ctx)(w:St)(all:List Oper)(s:PStep)(plan:List PStep)(_:St):St:=Option.rec (motive:=fun _=>St) w (L4 v h T k c all plan) (psI s)
def LM(v:AV)(h:Heap)(T:Slots)(k:List AItem)(c:Ctx)(w:St)(all:List Oper)(plan:List PStep):St:=List.rec (motive:=fun _=>St) w (L5 v h T k c w all) plan
def L6(v:AV)(h:Heap)(T:Slots)(k:List AItem)(c:Ctx)(w:St)(x:IV):St:=IV.rec (motive:=fun _=>St) w (LL v h T k c w) (LM v h T k c w) x
def LN(v:AV)(cs:List AFrame)(h:Heap)(fn:Nat)(T:Slots)(ds:List ADef)(m:AMode)(fk:FK)(it:AItem)(k:List AItem)(_:St):St:=L6 v h T k (.mk fn ds fk cs) (finish (.mk fn T (it::k) ds m fk) v cs h) (KY it)
def LO(v:AV)(cs:List AFrame)(h:Heap)(fn:Nat)(T:Slots)(k:List AItem)(ds:List ADef)(m:AMode)(fk:FK):St:=List.rec (motive:=fun _=>St) (.bad "finish") (LN v cs h fn T ds m fk) k
def L7(fr:AFrame)(v:AV)(cs:List AFrame)(h:Heap):St:=AFrame.rec (motive:=fun _=>St) (LO v cs h) fr
omit [Hook] in
theorem Iq(fr:AFrame)(v:AV)(cs:List AFrame)(h:Heap):L7 fr v cs h=finish fr v cs h:=by
 obtain⟨fn,T,k,ds,m,fk⟩:=fr
 cases k with
 | nil=>rfl
 | cons it k=>
  show L6 v h T k (.mk fn ds fk cs) (finish (.mk fn T (it::k) ds m fk) v cs h) (KY it)=_
  cases it with
  | ops all rest=>
   cases rest with
   | nil=>rfl
   | cons o rest=>exact Aq (.ops all rest) k (.mk fn ds fk cs) h v T o.dst
  | dops all plan=>
   cases plan with
   | nil=>rfl
   | cons s plan=>cases s with
    | op i=>exact Aq (.dops all plan) k (.mk fn ds fk cs) h v T (hI all i)
    | chk i=>rfl
  | _=>rfl
def L8(fk:FK):Bool:=FK.rec (motive:=fun _=>Bool) true false (fun _=>false) fk
def LP(v:AV)(h:Heap)(fr:AFrame)(cs:List AFrame)(_:St):St:=L7 fr v cs h
def EM(fk:FK)(cs:List AFrame)(h:Heap)(v:AV):St:=Bool.rec (motive:=fun _=>St) (qp v fk cs h) (List.rec (motive:=fun _=>St) (.done v h) (LP v h) cs) (L8 fk)
omit [Hook] in
theorem DG(fk:FK)(cs:List AFrame)(h:Heap)(v:AV):EM fk cs h v=qp v fk cs h:=by
 cases fk with
 | normal=>
  cases cs with
  | nil=>rfl
  | cons fr cs=>exact Iq fr v cs h
 | _=>rfl
inductive RS where | no | one (g:GB) | many (a:AB)
def JZ(t:Nat)(a:AB):AB:=⟨aC (okT t) a⟩
def uK:List ResultVar→Option AB
 | []=>some ⟨aN⟩
 | .tmp t::rs=>(uK rs).map (JZ t)
 | .cell _ _::_=>none
def L9(rs:List ResultVar):RS:=match rs with
 | [.tmp t]=>.one (okT t)
 | rs=>match uK rs with
  | some a=>.many a
  | none=>.no
omit [Hook] in
theorem Ar(h:Heap)(T:Slots):∀ (rs:List ResultVar) (a:AB),uK rs=some a→∃ vs,c5 P h T rs=some vs∧vs.length=rs.length∧∀ k,a.f T k=k vs
 | [],a,ha=>by
  have ha:some (⟨aN⟩:AB)=some a:=ha
  injection ha with ha;subst ha
  exact⟨[],rfl,rfl,fun k=>rfl⟩
 | .cell _ _::_,a,ha=>nomatch (show none=some a from ha)
 | .tmp t::rs,a,ha=>by
  have ha:(uK rs).map (JZ t)=some a:=ha
  cases hr:uK rs with
  | none=>rw [hr] at ha;cases ha
  | some b=>
   rw [hr] at ha
   have ha:some (JZ t b)=some a:=ha
   injection ha with ha;subst ha
   obtain⟨vs,h1,h2,h3⟩:=Ar h T rs b hr
   refine⟨T.get t::vs,by unfold c5;rw [h1],by simp [h2],fun k=>?_⟩
   show (okT t).f T (aC1 b T k)=_
   rw [C5]
   show b.f T (aC2 (T.get t) k)=_
   rw [h3];rfl
def Le(fk:FK)(cs:List AFrame)(h:Heap)(r:FK→List AFrame→Heap→AV→St)(vs:List AV):St:=r fk cs h (.tup vs)
def suO(T:Slots)(h:Heap)(fk:FK)(cs:List AFrame)(g:GB):St:=g.f T (EM fk cs h)
def suM(T:Slots)(h:Heap)(fk:FK)(cs:List AFrame)(a:AB):St:=a.f T (Le fk cs h EM)
def su2(w:St)(T:Slots)(h:Heap)(fk:FK)(cs:List AFrame)(r:RS):St:=RS.rec (motive:=fun _=>St) w (suO T h fk cs) (suM T h fk cs) r
def Hm(fn:Nat):RS:=L9 (gZ P fn)
def LQ(ds:List ADef):Bool:=List.rec (motive:=fun _=>Bool) true (fun _ _ _=>false) ds
def LR(m:AMode):Bool:=AMode.rec (motive:=fun _=>Bool) false true (fun _=>false) m
def su1(m:AMode)(T:Slots)(h:Heap)(fn:Nat)(ds:List ADef)(fk:FK)(cs:List AFrame):St:=Bool.rec (motive:=fun _=>St) (gv P m T (.mk fn ds fk cs) h) (Bool.rec (motive:=fun _=>St) (gv P m T (.mk fn ds fk cs) h) (su2 (gv P m T (.mk fn ds fk cs) h) T h fk cs (Hm P fn)) (LQ ds)) (LR m)
def oi(m:AMode)(T:Slots)(c:Ctx)(h:Heap):St:=Ctx.rec (motive:=fun _=>St) (su1 P m T h) c
omit [Hook] in
theorem Cl(m:AMode)(T:Slots)(c:Ctx)(h:Heap):oi P m T c h=gv P m T c h:=by
 obtain⟨fn,ds,fk,cs⟩:=c
 show su1 P m T h fn ds fk cs=_
 cases m with
 | returning=>
  cases ds with
  | cons d ds=>rfl
  | nil=>
   show su2 (gv P .returning T (.mk fn [] fk cs) h) T h fk cs (Hm P fn)=Dq P T fn fk cs h
   unfold Hm Dq L9
   have many:∀ rs:List ResultVar,(∀ t,rs≠[.tmp t])→rs=gZ P fn→su2 (gv P .returning T (.mk fn [] fk cs) h) T h fk cs (match uK rs with | some a=>.many a | none=>.no)=(match c5 P h T rs with
     | none=>.bad "results"
     | some [v]=>qp v fk cs h
     | some vs=>qp (.tup vs) fk cs h):=by
    intro rs hne hrs
    cases hr:uK rs with
    | none=>subst hrs;rfl
    | some a=>
     obtain⟨vs,h1,h2,h3⟩:=Ar P h T rs a hr
     show a.f T (Le fk cs h EM)=_
     rw [h3,h1]
     show EM fk cs h (.tup vs)=_
     rw [DG]
     cases vs with
     | nil=>rfl
     | cons v vs=>cases vs with
      | cons v2 vs=>rfl
      | nil=>
       exfalso
       match rs,hne,h2,hr with
       | [.tmp t],hne,_,_=>exact hne t rfl
       | [.cell _ _],_,_,hr=>cases hr
   split
   ·rename_i t hrs
    rw [hrs]
    show (okT t).f T (EM fk cs h)=qp (T.get t) fk cs h
    rw [C5,DG]
   ·rename_i hne
    exact many _ (fun t e=>hne t e) rfl
 | _=>rfl
def rGo(ih:St→Bool)(T:Slots)(k:List AItem)(c:Ctx)(h:Heap):Bool:=ih (oh P T k c h)
def rUn(ih:St→Bool)(m:AMode)(T:Slots)(c:Ctx)(h:Heap):Bool:=ih (oi P m T c h)
def LS(ih:St→Bool)(l:List (AV × Heap))(T:Slots)(k:List AItem)(c:Ctx):Bool:=pu ih T k c l
def LT(_:String):Bool:=false
def J8(post:AV→Heap→Bool)(_:Nat)(ih:St→Bool)(s:St):Bool:=St.rec (motive:=fun _=>Bool) (rGo P ih) (rUn P ih) post (LS ih) LT s
def runF(post:AV→Heap→Bool)(n:Nat):St→Bool:=Nat.rec (motive:=fun _=>St→Bool) (fun _=>false) (J8 P post) n
theorem eQ(post:AV→Heap→Bool):∀ (n:Nat),runF P post n=jR P post n
 | 0=>rfl
 | n+1=>by
  have ih:=eQ post n
  funext s
  show J8 P post n (runF P post n) s=_
  rw [ih]
  cases s with
  | go T k c h=>show jR P post n (oh P T k c h)=jR P post n (xT P T k c h);rw [Ck]
  | un m T c h=>show jR P post n (oi P m T c h)=jR P post n (gv P m T c h);rw [Cl]
  | _=>rfl
end
end Go.VM
end
noncomputable section
namespace Go.VM
section
variable [H:Hook] {P:Program}
def Sat(P:Program)(w0:Base)(f:Nat)(k:Nat):Prop:=match k with
 | 0=>True
 | 1=>∀ (s sub:ByteArray) (w:World),w0.w.heap.size≤w.heap.size→(∀ k,w0.F k→w.heap[k]?=w0.w.heap[k]?)→s.size < 4294967281→Calls P f #[.string s,.string sub] w fun e w'=>e=.returned (.int .i64 (Lib.index s.data.toList sub.data.toList))∧w'=w
 | 2=>∀ (s sub:ByteArray) (w:World),w0.w.heap.size≤w.heap.size→(∀ k,w0.F k→w.heap[k]?=w0.w.heap[k]?)→s.size < 4294967281→Calls P f #[.string s,.string sub] w fun e w'=>e=.returned (.bool (Lib.contains s.data.toList sub.data.toList))∧w'=w
 | 3=>∀ (w:World),w0.w.heap.size≤w.heap.size→(∀ k,w0.F k→w.heap[k]?=w0.w.heap[k]?)→Calls P f #[] w fun e w'=>e=.returned (.bool true)∧Grew w w'
 | k+4=>PrimOk P w0 f (H.prim k)∧∀ a r,r ∈ H.tab k a→r.ok=true∧∀ (ρ:Rho) (A:List Value) (w:World),RelL ρ r.args A→w0.w.heap.size≤w.heap.size→(∀ k,w0.F k→w.heap[k]?=w0.w.heap[k]?)→Calls P f ⟨A⟩ w fun e w'=>∃ ρ1 h1 V,e=.returned V∧Rel ρ1 r.val V∧Sim (Base.std w) ρ1 h1 w'∧∀ p ∈ r.objs,h1.get p.1=some p.2
theorem sums_of{w0:Base}{l:List (Nat × Nat)}(hl:H.sums=lookN l)(hb:∀ q ∈ l,∃ c,bodyOf P q.1=some c)(hc:∀ q ∈ l,Sat P w0 q.1 q.2):Sums P w0:=by
 have key:∀ f k,bJ f=k→k≠0→(f,k) ∈ l:=fun f k hk h0=>oL (by rw [←hl];exact hk) h0
 refine⟨fun f h=>hb _ (key f _ rfl h),fun f h=>?_,fun f h=>?_,fun f h=>?_,fun f k h=>?_,fun f k h=>?_⟩
 ·exact hc _ (key f 1 h (by decide))
 ·exact hc _ (key f 2 h (by decide))
 ·exact hc _ (key f 3 h (by decide))
 ·exact (show _∧_ from hc _ (key f (k+4) h (by omega))).2
 ·exact (show _∧_ from hc _ (key f (k+4) h (by omega))).1
def zg(P:Program)(laid:List (Nat × AObj))(f:Nat)(args:List AV)(k:Key):St:=match bodyOf P f with
 | some c=>enter P f args .normal [] ⟨startT laid P.globals.size,k⟩ c
 | none=>.bad "no body"
def rowRun(P:Program)(laid:List (Nat × AObj))(f:Nat)(k:Key)(r:Row):Bool:=cond r.ok (runF P (K1 r) 500000 (zg P laid f r.args k)) false
theorem memo_of(hR:RowsOk P)(hF:P.follows .mixedOrders=true)(h64:P.globals.size≤64){laid:List (Nat × AObj)}{tot:Nat→Nat}{f:Nat}{r:Row}{k:Key}{w:World}(hS:SumOk P (Base.at w (startRho tot P.globals.size)))(hw:LaidOk P laid tot w){ρ:Rho}{A:List Value}(hr:RelL ρ r.args A)(hrun:rowRun P laid f k r=true):
  Calls P f ⟨A⟩ w fun e w'=>∃ ρ1 h1 V,e=.returned V∧Rel ρ1 r.val V∧Sim (Base.std w) ρ1 h1 w'∧∀ p ∈ r.objs,h1.get p.1=some p.2:=by
 obtain⟨hok,hrun⟩:=ad hrun
 unfold Row.ok at hok
 obtain⟨hp,_⟩:=ad hok
 rw [eQ] at hrun
 unfold zg at hrun
 cases hb:bodyOf P f with
 | none=>rw [hb] at hrun;cases hrun
 | some c=>
  rw [hb] at hrun
  have h0:=kF (laid:=laid) (tot:=tot) h64 hw.1 (fun g o hg hl ρ=>hw.2 g o hg hl _ ρ)
  have hs:Sim (Base.at w (startRho tot P.globals.size)) (startRho tot P.globals.size) ⟨startT laid P.globals.size,k⟩ w:=⟨h0.os,h0.out,h0.size,h0.old,h0.sub,h0.obj,h0.inj⟩
  refine (cU ⟨⟩ ⟨cq hR,hS⟩ hF hs (iB h64) (hr.of_plain hp) hb hrun).mono ?_
  rintro e w' ⟨ρ',v,V,h,rfl,hv,hs',_,hpost⟩
  obtain⟨h1,h2⟩:=ad hpost
  obtain rfl:=ne 60 _ _ h1
  exact⟨ρ',h,V,rfl,hv,hs'.std,q8 h2⟩
theorem row_ok{laid:List (Nat × AObj)}{f:Nat}{k:Key}{r:Row}(h:rowRun P laid f k r=true):r.ok=true:=(ad h).1
theorem truth_of(hR:RowsOk P)(hF:P.follows .mixedOrders=true)(h64:P.globals.size≤64){laid:List (Nat × AObj)}{tot:Nat→Nat}{f:Nat}{args:List AV}{A:List Value}{w:World}(hS:SumOk P (Base.at w (startRho tot P.globals.size)))(hw:LaidOk P laid tot w)(hr:RelL (startRho tot P.globals.size) args A){n:Nat}(hrun:runF P isTrue n (startSt P laid f args)=true):
  Calls P f ⟨A⟩ w fun e w'=>e=.returned (.bool true)∧Grew w w':=by
 rw [eQ] at hrun
 refine (ze hR hF h64 hS hw hr hrun).mono ?_
 rintro e w' ⟨ρ,v,V,h,rfl,hv,hs,_,hp⟩
 exact⟨by rw [sN hv hp],Grew.of_sim hs.std⟩
end
def rowsAll(p:Row→Bool):List Row→Bool
 | []=>true
 | r::l=>cond (p r) (rowsAll p l) false
theorem q9{p:Row→Bool}:∀ {l:List Row},rowsAll p l=true→∀ r ∈ l,p r=true
 | [],_,r,hr=>by cases hr
 | q::l,h,r,hr=>by
  obtain⟨h1,h2⟩:=ad (show cond (p q) (rowsAll p l) false=true from h)
  cases hr with
  | head=>exact h1
  | tail _ hr=>exact q9 h2 r hr
def N8.allb{α:Type}(p:α→Bool)(x:N8 α):Bool:=cond (p x.a0) (cond (p x.a1) (cond (p x.a2) (cond (p x.a3) (cond (p x.a4) (cond (p x.a5) (cond (p x.a6) (p x.a7) false) false) false) false) false) false) false
theorem N8.allb_mk{α:Type}{p:α→Bool}{a0 a1 a2 a3 a4 a5 a6 a7:α}(h0:p a0=true)(h1:p a1=true)(h2:p a2=true)(h3:p a3=true)(h4:p a4=true)(h5:p a5=true)(h6:p a6=true)(h7:p a7=true):(N8.mk a0 a1 a2 a3 a4 a5 a6 a7).allb p=true:=by
 simp [N8.allb,h0,h1,h2,h3,h4,h5,h6,h7]
theorem N8.allb_sel{α:Type}{p:α→Bool}{x:N8 α}(h:x.allb p=true)(d:D8):p ((sel d).f x)=true:=by
 obtain⟨h0,h⟩:=ad h
 obtain⟨h1,h⟩:=ad h
 obtain⟨h2,h⟩:=ad h
 obtain⟨h3,h⟩:=ad h
 obtain⟨h4,h⟩:=ad h
 obtain⟨h5,h⟩:=ad h
 obtain⟨h6,h7⟩:=ad h
 cases d<;>assumption
def K3(t:N8 (N8 (N8 (List Row))))(n:Nat):List Row:=(sel (D8.ofNat (n % 8))).f ((sel (D8.ofNat (n / 8 % 8))).f ((sel (D8.ofNat (n / 64))).f t))
def bkt(t:N8 (N8 (N8 (List Row))))(args:List AV):List Row:=match args with
 | [_,.str _ c]=>ak (Nat.mod c 509) (K3 t)
 | _=>[]
theorem bkt_mem{p:Row→Bool}{t:N8 (N8 (N8 (List Row)))}(h:t.allb (fun x=>x.allb (fun y=>y.allb (rowsAll p)))=true){args:List AV}{r:Row}(hr:r ∈ bkt t args):p r=true:=by
 unfold bkt at hr
 split at hr
 ·rw [af] at hr
  exact q9 (N8.allb_sel (N8.allb_sel (N8.allb_sel h _) _) _) r hr
 ·cases hr
end Go.VM
end
