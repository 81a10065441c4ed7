/- A map's keys, sorted, and a text many times over, by the library's contracts. No conditions: a library text of the proof. -/
import Derived.Test.YtooelpaaidnhiaaGreatDoorVH
import Derived.Sort.KeysCollected
import Derived.Lib.SlKeysI
import Derived.Sort.Walk0
import Derived.Lib.Repeat
noncomputable section
namespace Go.VM
open Go.RowKit
def Eq(l c:Nat):List (Nat × Nat)→List (Nat × Nat)
 | []=>[(l,c)]
 | p::r=>cond (ci (l+p.1+1) l c p.1 p.2) ((l,c)::p::r) (p::Eq l c r)
def eF:AV→Option (Nat × Nat)
 | .str l c=>some (l,c)
 | _=>none
def qF(x:Option (Nat × Nat))(ks:List (Nat × Nat)):Option (List (Nat × Nat)):=match x with
 | some p=>cond (Nat.ble p.1 1000000) (some (Eq p.1 p.2 ks)) none
 | none=>none
def jg:List (AV × AV × Nat)→Option (List (Nat × Nat))
 | []=>some []
 | e::r=>(jg r).bind (qF (eF e.1))
def lS:List (Nat × Nat)→Bool
 | []=>true
 | [_]=>true
 | p::q::r=>cond (ci (p.1+q.1+1) p.1 p.2 q.1 q.2) (lS (q::r)) false
def cW:List (AV × AV × Nat)→List Nat
 | []=>[]
 | e::r=>e.2.2::cW r
def qa(n:Nat):List Nat→Bool
 | []=>true
 | i::r=>cond (Nat.blt i n) (qa n r) false
def gl(clock:Nat)(es:List (AV × AV × Nat)):Bool:=cond (qa clock (cW es)) (gu (cW es)) false
def cf:List (Nat × Nat)→List AV
 | []=>[]
 | p::r=>.str p.1 p.2::cf r
def sZ(t:RT AObj)(n:Key)(o:AObj)(k:Key→AV):Option (AV × Heap):=match t.get n with
 | none=>some (k n,.mk (t.set o n) (bV n))
 | some _=>none
def Je(h:Heap)(o:AObj)(k:Key→AV):Option (AV × Heap):=sZ h.t h.next o k
def fQ(e:Nat)(cs:List AV)(h:Heap):Option (AV × Heap):=match cs with
 | []=>some (.nilSlice,h)
 | c::r=>ak (len (c::r)) (fun n=>Je h (.cells e (c::r) true 0) (fun b=>.slice b 0 n (.more 1)))
def zh(e clock:Nat)(es:List (AV × AV × Nat))(h:Heap):Option (AV × Heap):=match jg es with
 | some ks=>cond (cond (lS ks) (cond (gl clock es) (Nat.ble (len es) 100000) false) false) (fQ e (cf ks) h) none
 | none=>none
def iW:List (AV × AV)→List (AV × AV × Nat)
 | []=>[]
 | e::r=>(e.1,e.2,0)::iW r
def oM(e:Nat)(es:List (AV × AV))(h:Heap):Option (AV × Heap):=match jg (iW es) with
 | some ks=>cond (cond (lS ks) (Nat.ble (len es) 100000) false) (fQ e (cf ks) h) none
 | none=>none
def kG(f:Nat→Nat→List (AV × AV × Nat)→Heap→Option (AV × Heap))(fl:Nat→List (AV × AV)→Heap→Option (AV × Heap))(e:Nat)(m:AV)(h:Heap):Option (AV × Heap):=match m with
 | .map b=>(match h.get b with
  | some (.map es clock)=>f e clock es h
  | some (.lmap es)=>fl e es h
  | some (.smap es _)=>fl e (eI es) h
  | _=>none)
 | .nilMap=>some (.nilSlice,h)
 | _=>none
def kH(f:Nat→Nat→List (AV × AV × Nat)→Heap→Option (AV × Heap))(fl:Nat→List (AV × AV)→Heap→Option (AV × Heap))(e:Nat)(o:Option AObj)(h:Heap):Option (AV × Heap):=match o with
 | some (.cells _ [m] false _)=>kG f fl e m h
 | _=>none
def cD(f:Nat→Nat→List (AV × AV × Nat)→Heap→Option (AV × Heap))(fl:Nat→List (AV × AV)→Heap→Option (AV × Heap))(it:Nat→Bool)(e:Nat)(args:List AV)(h:Heap):Option (AV × Heap):=match args with
 | [.func (.func g) [] [.ptr bm 0]]=>cond (it g) (kH f fl e (h.get bm) h) none
 | _=>none
def sortedStr(it:Nat→Bool)(e:Nat):List AV→Heap→Option (AV × Heap):=cD zh oM it e
def keyStr:Value→List UInt8
 | .string s=>s.data.toList
 | _=>[]
structure SortedAt (P:Program) (w0:Base) (f e:Nat) (it:Nat→Bool):Prop where
 some_:∀ g,it g=true→∀ (w:World) (Bm b clock:Nat) (es:Array MapEntry),w0.w.heap.size≤w.heap.size→Bm < w.heap.size→w.cell? ⟨Bm,0,none⟩=some (.map (some b))→w.heap[b]?=some (.map es clock)→MapKept.Stamped es clock→(∀ x ∈ es.toList,∃ s,x.key=.string s∧s.size≤1000000)→es.size≤100000→
  Calls P f #[.func (.func g) #[] #[.pointer (some ⟨Bm,0,none⟩)]] w fun en w'=>∃ (v:Value) (ss:List (List UInt8)),en=.returned v∧ss.Perm (es.toList.map fun x=>keyStr x.key)∧w'.ownsRow w.heap.size e 1 v ss.length ((ss.mergeSort leB).map Go.Proofs.encStr)∧(v=.slice none 0 0 ↔ ss=[])∧Below w.heap.size w w'
 nil_:∀ g,it g=true→∀ (w:World) (Bm:Nat),w0.w.heap.size≤w.heap.size→Bm < w.heap.size→w.cell? ⟨Bm,0,none⟩=some (.map none)→
  Calls P f #[.func (.func g) #[] #[.pointer (some ⟨Bm,0,none⟩)]] w fun en w'=>en=.returned (.slice none 0 0)∧Below w.heap.size w w'
theorem dk{w w':World}(h:Below w.heap.size w w'):Grew w w':=⟨h.os,h.output,h.size,h.block⟩
def cE(e:AV × AV × Nat):Nat × Nat:=(eF e.1).getD (0,0)
theorem vP(l c:Nat):∀ ks:List (Nat × Nat),(Eq l c ks).Perm ((l,c)::ks)
 | []=>.refl _
 | p::r=>by
  unfold Eq
  cases ci (l+p.1+1) l c p.1 p.2 with
  | true=>exact .refl _
  | false=>exact ((vP l c r).cons p).trans (.swap _ _ _)
theorem fj:∀ {es:List (AV × AV × Nat)} {ks:List (Nat × Nat)},jg es=some ks→ks.Perm (es.map cE)∧∀ e ∈ es,∃ l c,e.1=.str l c∧l≤1000000
 | [],ks,h=>by
  have h:some []=some ks:=h
  injection h with h;subst h
  exact⟨.refl _,fun e he=>by cases he⟩
 | e::r,ks,h=>by
  have h:(jg r).bind (qF (eF e.1))=some ks:=h
  cases hr:jg r with
  | none=>rw [hr] at h;cases h
  | some k1=>
   rw [hr] at h
   obtain⟨ih1,ih2⟩:=fj hr
   have h:qF (eF e.1) k1=some ks:=h
   unfold qF at h
   cases hk:eF e.1 with
   | none=>rw [hk] at h;cases h
   | some p=>
    rw [hk] at h
    have h:cond (Nat.ble p.1 1000000) (some (Eq p.1 p.2 k1)) none=some ks:=h
    cases hb:Nat.ble p.1 1000000 with
    | false=>rw [hb] at h;cases h
    | true=>
     rw [hb] at h
     have h:some (Eq p.1 p.2 k1)=some ks:=h
     injection h with h;subst h
     have hp:cE e=p:=by unfold cE;rw [hk];rfl
     refine⟨?_,fun x hx=>?_⟩
     ·rw [List.map_cons,hp];exact (vP p.1 p.2 k1).trans (ih1.cons p)
     ·cases hx with
      | head=>
       obtain⟨k,v,b⟩:=e
       have hk:eF k=some p:=hk
       cases k with
       | str l c=>
        have hk:some (l,c)=some p:=hk
        injection hk with hk;subst hk
        exact⟨l,c,rfl,Nat.le_of_ble_eq_true hb⟩
       | _=>cases hk
      | tail _ hx=>exact ih2 x hx
theorem cg:∀ es:List (AV × AV × Nat),cW es=es.map fun e=>e.2.2
 | []=>rfl
 | e::r=>by show e.2.2::cW r=_;rw [cg r];rfl
theorem fo{n:Nat}:∀ {l:List Nat},qa n l=true→∀ i ∈ l,i < n
 | [],_,i,hi=>by cases hi
 | j::r,h,i,hi=>by
  unfold qa at h
  obtain⟨h1,h2⟩:=ad h
  cases hi with
  | head=>exact cb h1
  | tail _ hi=>exact fo h2 i hi
theorem ERel.borns{ρ:Rho}:∀ {es:List (AV × AV × Nat)} {E:List MapEntry},ERel ρ es E→E.map (·.born)=es.map fun e=>e.2.2
 | _,_,.nil=>rfl
 | _,_,.cons _ _ _ _ _ _ _ _ _ hr=>by simp [ERel.borns hr]
theorem ERel.strs{ρ:Rho}:∀ {es:List (AV × AV × Nat)} {E:List MapEntry},ERel ρ es E→(∀ e ∈ es,∃ l c,e.1=.str l c∧l≤1000000)→
  E.map (·.key)=(es.map cE).map (fun p=>Value.string (strOf p.1 p.2))∧∀ e ∈ es,(cE e).2 < 256 ^ (cE e).1∧(cE e).1≤1000000
 | _,_,.nil,_=>⟨rfl,fun e he=>by cases he⟩
 | _,_,.cons k v K V c r R hk hv hr,h=>by
  obtain⟨l,d,e1,hl⟩:=h _ (List.mem_cons_self ..)
  have e1:k=.str l d:=e1
  subst e1
  cases hk with
  | str _ _ hd=>
   obtain⟨i1,i2⟩:=ERel.strs hr fun e he=>h e (List.mem_cons_of_mem _ he)
   refine⟨by simp only [List.map_cons,i1];rfl,fun e he=>?_⟩
   cases he with
   | head=>exact⟨hd,hl⟩
   | tail _ he=>exact i2 e he
def ltS(p q:Nat × Nat):Prop:=ac p.1 p.2 < ac q.1 q.2
theorem Bq{l c m d:Nat}:ci (l+m+1) l c m d=true ↔ ac l c < ac m d:=by
 rw [ib _ _ _ _ _ (by omega),Go.Proofs.bytesLess_eq,decide_eq_true_iff]
theorem vQ:∀ {ks:List (Nat × Nat)},lS ks=true→ks.Pairwise ltS
 | [],_=>.nil
 | [p],_=>List.pairwise_singleton _ _
 | p::q::r,h=>by
  unfold lS at h
  obtain⟨h1,h2⟩:=ad h
  have ih:=vQ h2
  have hpq:ltS p q:=Bq.1 h1
  refine List.pairwise_cons.2 ⟨fun x hx=>?_,ih⟩
  cases hx with
  | head=>exact hpq
  | tail _ hx=>exact List.lt_trans hpq ((List.pairwise_cons.1 ih).1 x hx)
theorem kI:∀ ks:List (Nat × Nat),cf ks=ks.map fun p=>AV.str p.1 p.2
 | []=>rfl
 | p::r=>by show AV.str p.1 p.2::cf r=_;rw [kI r];rfl
theorem nb:∀ ks:List (Nat × Nat),dh (cf ks)=true
 | []=>rfl
 | _::r=>nb r
theorem oN{ρ:Rho}:∀ {ks:List (Nat × Nat)},(∀ p ∈ ks,p.2 < 256 ^ p.1)→RelL ρ (ks.map fun p=>AV.str p.1 p.2) (ks.map fun p=>Value.string (strOf p.1 p.2))
 | [],_=>.nil
 | p::_,h=>.cons _ _ _ _ (.str _ _ (h p (List.mem_cons_self ..))) (oN fun q hq=>h q (List.mem_cons_of_mem _ hq))
theorem zi{w0:Base}{w w':World}{ρ:Rho}{h:Heap}{e:Nat}{cs:List AV}{V:Value}{vs:List Value}{v:AV}{h':Heap}(hs:Sim w0 ρ h w)(hp:dh cs=true)(hrel:∀ ρ,RelL ρ cs vs)(hown:w'.ownsRow w.heap.size e 1 V cs.length vs)(hnil:V=.slice none 0 0 ↔ cs=[])(hb:Below w.heap.size w w')(he:fQ e cs h=some (v,h')):
  ∃ ρ',Sub ρ ρ'∧Kept ρ h ρ' h'∧Rel ρ' v V∧Sim w0 ρ' h' w':=by
 cases cs with
 | nil=>
  have he:some (AV.nilSlice,h)=some (v,h'):=he
  injection he with he;injection he with h1 h2;subst h1;subst h2
  rw [hnil.2 rfl]
  exact⟨ρ,Sub.refl _,Kept.refl _ _,.nilSlice,hs.grew (dk hb)⟩
 | cons c r=>
  obtain⟨hlen,hcase⟩:=hown
  rcases hcase with ⟨_,h0⟩ | ⟨g,cap,cur,rfl,hg,hO,hn,_,hsz,htk⟩
  ·simp at h0
  have he:ak (len (c::r)) (fun n=>Je h (.cells e (c::r) true 0) (fun b=>.slice b 0 n (.more 1)))=some (v,h'):=he
  rw [af,aG] at he
  obtain⟨t,nk⟩:=h
  have he:sZ t nk (.cells e (c::r) true 0) (fun b=>.slice b 0 (c::r).length (.more 1))=some (v,h'):=he
  unfold sZ at he
  cases hk:t.get nk with
  | some _=>rw [hk] at he;cases he
  | none=>
   rw [hk] at he
   have he:some (AV.slice nk 0 (c::r).length (.more 1),Heap.mk (t.set (.cells e (c::r) true 0) nk) (bV nk))=some (v,h'):=he
   injection he with he;injection he with h1 h2;subst h1;subst h2
   let L:Loc:=⟨g,0,cur.size⟩
   let ρ1:Rho:=fun k=>if nk=k then some L else none
   let o:AObj:=.cells e (c::r) true 0
   let h1:Heap:=.mk (RT.nil.set o nk) nk
   have hglt:g < w'.heap.size:=(Array.getElem?_eq_some_iff.1 hO).1
   have hobj:ObjRel (fun k=>k < w.heap.size) ρ1 L w'.heap[L.B]? o:=by
    refine⟨Nat.not_lt.2 hg,cur,(0,0),?_,rfl,fun j _ hj=>absurd hj (Nat.not_lt_zero _),⟨?_,?_⟩,(fun h=>by cases h),(fun _ h=>by cases h)⟩
    ·show w'.heap[g]?=_;rw [hO]
    ·show 0+(c::r).length≤cur.size;omega
    ·show RelL ρ1 (c::r) ((cur.toList.drop 0).take (c::r).length)
     rw [List.drop_zero]
     have:cur.toList.take (c::r).length=vs:=by rw [←htk,Nat.mul_one]
     rw [this];exact hrel ρ1
   have hs1:Sim (Base.std w) ρ1 h1 w':=by
    refine⟨hb.os,hb.output,hb.size,hb.block,(fun _ _ e=>nomatch e),fun b L' e'=>?_,fun b b' L1 L2 o1 o2 e1 e2 _ _ _ _ _=>?_⟩
    ·by_cases hbk:nk=b
     ·subst hbk
      have e':some L=some L':=by simpa [ρ1] using e'
      injection e' with e';subst e'
      exact⟨o,RT.get_set_same _ _ _,hglt,hobj⟩
     ·simp [ρ1,hbk] at e'
    ·by_cases hb1:nk=b
     ·by_cases hb2:nk=b'
      ·exact hb1.symm.trans hb2
      ·simp [ρ1,hb2] at e2
     ·simp [ρ1,hb1] at e1
   have hin:lq (bn [(nk,o)]) o=true:=by
    show cu (e9 _ 20) (c::r)=true
    have:∀ l:List AV,dh l=true→cu (e9 (bn [(nk,o)]) 20) l=true:=by
     intro l
     induction l with
     | nil=>intro _;rfl
     | cons a l ih=>
      intro hl
      obtain⟨ha,hl⟩:=ad (show cond a.plain (dh l) false=true from hl)
      have:e9 (bn [(nk,o)]) 20 a=true:=by cases a<;>first | rfl | cases ha
      show cond (e9 _ 20 a) (cu _ l) false=true
      rw [this];exact ih hl
    exact this _ hp
   have hf:=hs.frame (objs:=[(nk,o)]) hs1 (fun p hp'=>by
     obtain rfl:p=(nk,o):=by simpa using hp'
     exact RT.get_set_same _ _ _) (fun p hp'=>by
     obtain rfl:p=(nk,o):=by simpa using hp'
     exact hk) (fun p hp'=>by
     obtain rfl:p=(nk,o):=by simpa using hp'
     exact hin)
   obtain⟨s1,s2,s3⟩:=hf
   have hnew:fi [(nk,o)] ρ ρ1 nk=some L:=by
    rw [ed (Ep (List.mem_cons_self ..))];simp [ρ1]
   refine⟨_,s2,fun k x gx ex=>s3 k x gx ex,.sliceMore nk 0 _ cap 1 L hnew hn ?_,⟨s1.os,s1.out,s1.size,s1.old,s1.sub,s1.obj,s1.inj⟩⟩
   show 0+0+cap * 1=cur.size
   omega
theorem Fu{es:List (AV × AV × Nat)}{ks:List (Nat × Nat)}(hperm:ks.Perm (es.map cE)){E:List MapEntry}(hE:E.map (·.key)=(es.map cE).map (fun p=>Value.string (strOf p.1 p.2))):
  (E.map fun x=>keyStr x.key).Perm (ks.map fun p=>ac p.1 p.2):=by
 have e1:(E.map fun x=>keyStr x.key)=(es.map cE).map fun p=>ac p.1 p.2:=by
  have:(E.map fun x=>keyStr x.key)=(E.map (·.key)).map keyStr:=by rw [List.map_map];rfl
  rw [this,hE,List.map_map];rfl
 rw [e1]
 exact (hperm.map _).symm
theorem Br{ks:List (Nat × Nat)}(h:ks.Pairwise ltS):(ks.map fun p=>ac p.1 p.2).mergeSort leB=ks.map fun p=>ac p.1 p.2:=by
 refine List.mergeSort_of_pairwise ?_
 rw [List.pairwise_map]
 exact h.imp fun hlt=>by simpa [leB] using List.le_of_lt hlt
theorem fT{P:Program}{w0:Base}{f e:Nat}{it:Nat→Bool}(hc:SortedAt P w0 f e it){ρ:Rho}{h h':Heap}{w:World}{v:AV}(hs:Sim w0 ρ h w){g:Nat}(hg:it g=true){Lm Lb:Loc}(hlt:Lm.B < w.heap.size)(hcell:w.cell? ⟨Lm.B,0,none⟩=some (.map (some Lb.B))){E:Array MapEntry}{clock:Nat}(hOb:w.heap[Lb.B]?=some (.map E clock)){es:List (AV × AV × Nat)}(hE:ERel ρ es E.toList)(hstp:Stamp E.toList clock)
  {ks:List (Nat × Nat)} (hperm:ks.Perm (es.map cE)) (hstr:∀ e ∈ es,∃ l c,e.1=.str l c∧l≤1000000) (hasc:lS ks=true) (hlen:es.length≤100000) (he:fQ e (cf ks) h=some (v,h')):
  Calls P f #[.func (.func g) #[] #[.pointer (some ⟨Lm.B,0,none⟩)]] w fun e w'=>∃ ρ' V,e=.returned V∧Sub ρ ρ'∧Kept ρ h ρ' h'∧Rel ρ' v V∧Sim w0 ρ' h' w':=by
 obtain⟨hkeys,hbnd⟩:=hE.strs hstr
 have hEl:E.toList.length=es.length:=by
  have:=congrArg List.length hE.borns
  simpa using this
 have hpw:=vQ hasc
 have hksb:∀ p ∈ ks,p.2 < 256 ^ p.1∧p.1≤1000000:=fun p hp=>by
  have:=hperm.mem_iff.1 hp
  obtain⟨x,hx,rfl⟩:=List.mem_map.1 this
  exact hbnd x hx
 have hst:MapKept.Stamped E clock:=by
  refine⟨hstp.1,hstp.2,?_⟩
  ·rw [hkeys]
   have hnd:((ks.map fun p=>Value.string (strOf p.1 p.2))).Nodup:=by
    show List.Pairwise _ _
    rw [List.pairwise_map]
    refine hpw.imp fun {p q} hlt heq=>?_
    have:strOf p.1 p.2=strOf q.1 q.2:=by injection heq
    have:ac p.1 p.2=ac q.1 q.2:=congrArg (fun s:ByteArray=>s.data.toList) this
    have hlt:ac p.1 p.2 < ac q.1 q.2:=hlt
    rw [this] at hlt
    exact List.lt_irrefl _ hlt
   exact ((hperm.map _).nodup_iff).1 hnd
 have hkeyS:∀ x ∈ E.toList,∃ s,x.key=.string s∧s.size≤1000000:=fun x hx=>by
  have h1:x.key ∈ E.toList.map (·.key):=List.mem_map.2 ⟨x,hx,rfl⟩
  rw [hkeys] at h1
  obtain⟨p,hp,e2⟩:=List.mem_map.1 h1
  obtain⟨y,hy,rfl⟩:=List.mem_map.1 hp
  exact⟨_,e2.symm,by rw [aI];exact (hbnd y hy).2⟩
 have hcall:=hc.some_ g hg w Lm.B Lb.B clock E hs.size hlt hcell hOb hst hkeyS (by rw [←Array.length_toList,hEl];exact hlen)
 refine hcall.mono ?_
 rintro en w' ⟨V,ss,rfl,hss,hown,hnil,hbel⟩
 have hss2:=hss.trans (Fu hperm hkeys)
 have hms:ss.mergeSort leB=ks.map fun p=>ac p.1 p.2:=(mergeSort_of_perm hss2).trans (Br hpw)
 have hl1:ss.length=(cf ks).length:=by rw [kI,List.length_map];simpa using hss2.length_eq
 have hrow:(ss.mergeSort leB).map Go.Proofs.encStr=ks.map fun p=>Value.string (strOf p.1 p.2):=by
  rw [hms,List.map_map];rfl
 rw [hrow,hl1] at hown
 have hpl:dh (cf ks)=true:=nb ks
 obtain⟨ρ',a1,a2,a3,a4⟩:=zi (v:=v) (h':=h') hs hpl (fun ρ=>by rw [kI];exact oN fun p hp=>(hksb p hp).1) hown (by
  rw [hnil]
  constructor
  ·intro h0;subst h0;exact List.eq_nil_of_length_eq_zero hl1.symm
  ·intro h0;rw [h0] at hl1;exact List.eq_nil_of_length_eq_zero hl1) hbel he
 exact⟨ρ',V,rfl,a1,a2,a3,a4⟩
theorem nc:∀ es:List (AV × AV),iW es=es.map fun e=>(e.1,e.2,0)
 | []=>rfl
 | e::r=>by show (e.1,e.2,0)::iW r=_;rw [nc r];rfl
theorem t6{es:List (AV × AV)}{es':List (AV × AV × Nat)}(hp:(es'.map fun e=>(e.1,e.2.1)).Perm es):
  ((iW es).map cE).Perm (es'.map cE)∧∀ Q:AV→Prop,(∀ e ∈ iW es,Q e.1)→∀ e ∈ es',Q e.1:=by
 rw [nc]
 refine⟨?_,fun Q hQ e he=>?_⟩
 ·have h1:=(hp.map fun e:AV × AV=>(eF e.1).getD (0,0)).symm
  rw [List.map_map] at h1 ⊢
  exact h1
 ·have h1:(e.1,e.2.1) ∈ es:=hp.mem_iff.1 (List.mem_map.2 ⟨e,he,rfl⟩)
  exact hQ (e.1,e.2.1,0) (List.mem_map.2 ⟨_,h1,rfl⟩)
theorem sortedStr_ok{P:Program}{w0:Base}{f e:Nat}{it:Nat→Bool}(hc:SortedAt P w0 f e it):PrimOk P w0 f (sortedStr it e):=by
 intro ρ h w args A v h' hs hr he
 unfold sortedStr cD at he
 split at he
 ·rename_i g bm
  cases hg:it g with
  | false=>rw [hg] at he;cases he
  | true=>
  rw [hg,cond_true] at he
  unfold kH at he
  split at he
  ·rename_i e1 m fz hbm
   cases hr with
   | cons _ F _ R hF hR=>
   cases hR
   cases hF with
   | func _ _ _ A1 B1 ha hb=>
   cases ha
   cases hb with
   | cons _ B2 _ R2 hB hR2=>
   cases hR2
   cases hB with
   | ptr _ _ Lm hLm=>
   obtain⟨o,ho,hlt,hobj⟩:=hs.obj bm Lm hLm
   rw [hbm] at ho
   injection ho with ho;subst ho
   obtain⟨_,C,q,hO,hsz,_,⟨hcb,hcr⟩,hbase,_⟩:=hobj
   obtain⟨hb0,htot⟩:=hbase rfl
   have hA:(⟨[.func (.func g) ⟨[]⟩ ⟨[.pointer (some ⟨Lm.B,Lm.base+0,none⟩)]⟩]⟩:Array Value)=#[.func (.func g) #[] #[.pointer (some ⟨Lm.B,0,none⟩)]]:=by rw [hb0]
   rw [hA]
   rw [hb0] at hcr
   have hcell:∀ V,Rel ρ m V→C.toList=[V]→w.cell? ⟨Lm.B,0,none⟩=some V:=by
    intro V _ hC
    have:C=#[V]:=by rw [←Array.toList_inj];exact hC
    simp [World.cell?,hO,this]
   obtain⟨V,hC,hV⟩:∃ V,C.toList=[V]∧Rel ρ m V:=by
    have hlen:C.toList.length=1:=by rw [Array.length_toList,hsz,htot];rfl
    rw [List.drop_zero,List.take_of_length_le (by rw [hlen];simp)] at hcr
    generalize C.toList=l at hcr
    cases hcr with
    | cons _ V _ R h1 h2=>cases h2;exact⟨V,rfl,h1⟩
   have hcell:=hcell V hV hC
   unfold kG at he
   split at he
   ·rename_i b
    cases hV with
    | map _ Lb hLb=>
    split at he
    ·rename_i es clock hgb
     obtain⟨o,ho,hltb,hobj⟩:=hs.obj b Lb hLb
     rw [hgb] at ho
     injection ho with ho;subst ho
     obtain⟨_,E,hOb,hE⟩:=hobj
     unfold zh at he
     cases hk:jg es with
     | none=>rw [hk] at he;cases he
     | some ks=>
     rw [hk] at he
     have he:cond (cond (lS ks) (cond (gl clock es) (Nat.ble (len es) 100000) false) false) (fQ e (cf ks) h) none=some (v,h'):=he
     cases hc2:cond (lS ks) (cond (gl clock es) (Nat.ble (len es) 100000) false) false with
     | false=>rw [hc2] at he;cases he
     | true=>
     rw [hc2,cond_true] at he
     obtain⟨hasc,hc3⟩:=ad hc2
     obtain⟨hborn,hlen⟩:=ad hc3
     obtain⟨hb1,hb2⟩:=ad (show cond (qa clock (cW es)) (gu (cW es)) false=true from hborn)
     have hlen:=Nat.le_of_ble_eq_true hlen
     rw [aG] at hlen
     obtain⟨hperm,hstr⟩:=fj hk
     have hst:Stamp E.toList clock:=by
      refine⟨fun x hx=>?_,?_⟩
      ·have h1:x.born ∈ E.toList.map (·.born):=List.mem_map.2 ⟨x,hx,rfl⟩
       rw [hE.borns,←cg] at h1
       exact fo hb1 _ h1
      ·rw [hE.borns,←cg];exact dx hb2
     exact fT hc hs hg hlt hcell hOb hE hst hperm hstr hasc hlen he
    ·rename_i es hgb
     obtain⟨o,ho,hltb,hobj⟩:=hs.obj b Lb hLb
     rw [hgb] at ho
     injection ho with ho;subst ho
     obtain⟨_,E,clock,hOb,⟨es',hp,hE⟩,hst⟩:=hobj
     unfold oM at he
     cases hk:jg (iW es) with
     | none=>rw [hk] at he;cases he
     | some ks=>
     rw [hk] at he
     have he:cond (cond (lS ks) (Nat.ble (len es) 100000) false) (fQ e (cf ks) h) none=some (v,h'):=he
     cases hc2:cond (lS ks) (Nat.ble (len es) 100000) false with
     | false=>rw [hc2] at he;cases he
     | true=>
     rw [hc2,cond_true] at he
     obtain⟨hasc,hlen⟩:=ad hc2
     have hlen:=Nat.le_of_ble_eq_true hlen
     rw [aG] at hlen
     obtain⟨hperm,hstr⟩:=fj hk
     obtain⟨hz1,hz2⟩:=t6 (es':=es') hp
     exact fT hc hs hg hlt hcell hOb hE hst (hperm.trans hz1) (hz2 (fun k=>∃ l c,k=.str l c∧l≤1000000) hstr) hasc (by have:=hp.length_eq;rw [List.length_map] at this;omega) he
    ·rename_i es0 ck hgb
     obtain⟨hltb,E,clock,es',hOb,hp,hE,hst⟩:=mU hs hLb hgb
     generalize eI es0=es at hp he
     unfold oM at he
     cases hk:jg (iW es) with
     | none=>rw [hk] at he;cases he
     | some ks=>
     rw [hk] at he
     have he:cond (cond (lS ks) (Nat.ble (len es) 100000) false) (fQ e (cf ks) h) none=some (v,h'):=he
     cases hc2:cond (lS ks) (Nat.ble (len es) 100000) false with
     | false=>rw [hc2] at he;cases he
     | true=>
     rw [hc2,cond_true] at he
     obtain⟨hasc,hlen⟩:=ad hc2
     have hlen:=Nat.le_of_ble_eq_true hlen
     rw [aG] at hlen
     obtain⟨hperm,hstr⟩:=fj hk
     obtain⟨hz1,hz2⟩:=t6 (es':=es') hp
     exact fT hc hs hg hlt hcell hOb hE hst (hperm.trans hz1) (hz2 (fun k=>∃ l c,k=.str l c∧l≤1000000) hstr) hasc (by have:=hp.length_eq;rw [List.length_map] at this;omega) he
    ·cases he
   ·have he:some (AV.nilSlice,h)=some (v,h'):=he
    injection he with he;injection he with h1 h2;subst h1;subst h2
    cases hV
    refine (hc.nil_ g hg w Lm.B hs.size hlt hcell).mono ?_
    rintro en w' ⟨rfl,hbel⟩
    exact⟨ρ,_,rfl,Sub.refl _,Kept.refl _ _,.nilSlice,hs.grew (dk hbel)⟩
   ·cases he
  ·cases he
 ·cases he
theorem own_of{P:Program}{k:TypeId}(hk:P.underlying k=some .string){w:World}{b clock:Nat}{es:Array MapEntry}(hb:w.heap[b]?=some (.map es clock))(hst:MapKept.Stamped es clock)(hkeys:∀ x ∈ es.toList,∃ s,x.key=.string s∧s.size≤1000000)(hsz:es.size≤100000):
  ∃ D0:DataW Unit,w.ownsMap P k (fun _=>some (.nil,[])) b es.size D0∧Maps.size D0=es.size∧(strKeys D0).Perm (es.toList.map fun x=>keyStr x.key):=by
 have hrd:∀ x ∈ es.toList,WideElems.rd (H:=Unit) P k (fun _=>some (.nil,[])) x=some (.string (keyStr x.key),.nil):=fun x hx=>by
  obtain⟨s,hs,hl⟩:=hkeys x hx
  have hle:s.size≤maxLen:=Nat.le_trans hl (by decide)
  have hkey:Go.keyOf P k (.string s)=some (.string s.data.toList):=WideMaps.keyOf_string_mk hk hle
  simp [WideElems.rd,hs,hkey,keyStr]
 have hF:WideElems.Fit (H:=Unit) P k (fun _=>some (.nil,[])) es clock:=⟨Nat.le_trans hsz (by decide),hst,fun x hx=>⟨_,hrd x hx⟩⟩
 refine⟨_,⟨es,clock,hb,hF,Nat.le_refl _,rfl⟩,?_,?_⟩
 ·show ((es.toList.map (WideElems.rg (H:=Unit) P k fun _=>some (.nil,[]))).foldr DataW.insert []).length=es.size
  rw [(WideShapes.sorted_perm _).length_eq,List.length_map,Array.length_toList]
 ·show (((es.toList.map (WideElems.rg (H:=Unit) P k fun _=>some (.nil,[]))).foldr DataW.insert []).map fun p=>Go.strOf p.1).Perm _
  refine ((WideShapes.sorted_perm _).map _).trans ?_
  rw [List.map_map]
  refine .of_eq (List.map_congr_left fun x hx=>?_)
  show Go.strOf (WideElems.rg P k _ x).1=_
  rw [WideElems.rg_of (hrd x hx)]
  rfl
end Go.VM
end
noncomputable section
namespace Go.VM
open Go.RowKit
def Er(n:Int):List Int→List Int
 | []=>[n]
 | m::r=>cond (eH n m) (n::m::r) (m::Er n r)
def gO:AV→Option Int
 | .int .i64 n=>some n
 | _=>none
def qG(x:Option Int)(ks:List Int):Option (List Int):=match x with
 | some n=>cond (fY n) (some (Er n ks)) none
 | none=>none
def sortI:List (AV × AV × Nat)→Option (List Int)
 | []=>some []
 | e::r=>(sortI r).bind (qG (gO e.1))
def Es:List Int→Bool
 | []=>true
 | [_]=>true
 | p::q::r=>cond (eH p q) (Es (q::r)) false
def lT:List Int→List AV
 | []=>[]
 | n::r=>.int .i64 n::lT r
def vR(e clock:Nat)(es:List (AV × AV × Nat))(h:Heap):Option (AV × Heap):=match sortI es with
 | some ks=>cond (cond (Es ks) (cond (gl clock es) (Nat.ble (len es) 100000) false) false) (fQ e (lT ks) h) none
 | none=>none
def sortedInt(it:Nat→Bool)(e:Nat):List AV→Heap→Option (AV × Heap):=cD vR (fun _ _ _=>none) it e
def keyInt:Value→Int
 | .int _ n=>n
 | _=>0
structure SortedAtI (P:Program) (w0:Base) (f e:Nat) (it:Nat→Bool):Prop where
 some_:∀ g,it g=true→∀ (w:World) (Bm b clock:Nat) (es:Array MapEntry),w0.w.heap.size≤w.heap.size→Bm < w.heap.size→w.cell? ⟨Bm,0,none⟩=some (.map (some b))→w.heap[b]?=some (.map es clock)→MapKept.Stamped es clock→(∀ x ∈ es.toList,∃ n,x.key=.int .i64 n∧(Lit.int .i64 n).wf=true)→es.size≤100000→
  Calls P f #[.func (.func g) #[] #[.pointer (some ⟨Bm,0,none⟩)]] w fun en w'=>∃ (v:Value) (ss:List Int),en=.returned v∧ss.Perm (es.toList.map fun x=>keyInt x.key)∧w'.ownsRow w.heap.size e 1 v ss.length ((ss.mergeSort leI).map encZ)∧(v=.slice none 0 0 ↔ ss=[])∧Below w.heap.size w w'
 nil_:∀ g,it g=true→∀ (w:World) (Bm:Nat),w0.w.heap.size≤w.heap.size→Bm < w.heap.size→w.cell? ⟨Bm,0,none⟩=some (.map none)→
  Calls P f #[.func (.func g) #[] #[.pointer (some ⟨Bm,0,none⟩)]] w fun en w'=>en=.returned (.slice none 0 0)∧Below w.heap.size w w'
def vS(e:AV × AV × Nat):Int:=(gO e.1).getD 0
theorem vT(n:Int):∀ ks:List Int,(Er n ks).Perm (n::ks)
 | []=>.refl _
 | m::r=>by
  unfold Er
  cases eH n m with
  | true=>exact .refl _
  | false=>exact ((vT n r).cons m).trans (.swap _ _ _)
theorem t7:∀ {es:List (AV × AV × Nat)} {ks:List Int},sortI es=some ks→ks.Perm (es.map vS)∧∀ e ∈ es,∃ n,e.1=.int .i64 n∧fY n=true
 | [],ks,h=>by
  have h:some []=some ks:=h
  injection h with h;subst h
  exact⟨.refl _,fun e he=>by cases he⟩
 | e::r,ks,h=>by
  have h:(sortI r).bind (qG (gO e.1))=some ks:=h
  cases hr:sortI r with
  | none=>rw [hr] at h;cases h
  | some k1=>
   rw [hr] at h
   obtain⟨ih1,ih2⟩:=t7 hr
   have h:qG (gO e.1) k1=some ks:=h
   unfold qG at h
   cases hk:gO e.1 with
   | none=>rw [hk] at h;cases h
   | some p=>
    rw [hk] at h
    have h:cond (fY p) (some (Er p k1)) none=some ks:=h
    cases hb:fY p with
    | false=>rw [hb] at h;cases h
    | true=>
     rw [hb] at h
     have h:some (Er p k1)=some ks:=h
     injection h with h;subst h
     have hp:vS e=p:=by unfold vS;rw [hk];rfl
     refine⟨?_,fun x hx=>?_⟩
     ·rw [List.map_cons,hp];exact (vT p k1).trans (ih1.cons p)
     ·cases hx with
      | head=>
       obtain⟨k,v,b⟩:=e
       have hk:gO k=some p:=hk
       cases k with
       | int q n=>
        cases q with
        | i64=>
         have hk:some n=some p:=hk
         injection hk with hk;subst hk
         exact⟨n,rfl,hb⟩
        | _=>cases hk
       | _=>cases hk
      | tail _ hx=>exact ih2 x hx
theorem ERel.ints{ρ:Rho}:∀ {es:List (AV × AV × Nat)} {E:List MapEntry},ERel ρ es E→(∀ e ∈ es,∃ n,e.1=.int .i64 n∧fY n=true)→
  E.map (·.key)=(es.map vS).map (Value.int .i64)∧∀ e ∈ es,fY (vS e)=true
 | _,_,.nil,_=>⟨rfl,fun e he=>by cases he⟩
 | _,_,.cons k v K V c r R hk hv hr,h=>by
  obtain⟨n,e1,hl⟩:=h _ (List.mem_cons_self ..)
  have e1:k=.int .i64 n:=e1
  subst e1
  cases hk with
  | int _ _=>
   obtain⟨i1,i2⟩:=ERel.ints hr fun e he=>h e (List.mem_cons_of_mem _ he)
   refine⟨by simp only [List.map_cons,i1];rfl,fun e he=>?_⟩
   cases he with
   | head=>exact hl
   | tail _ he=>exact i2 e he
theorem vU:∀ {ks:List Int},Es ks=true→ks.Pairwise (· < ·)
 | [],_=>.nil
 | [p],_=>List.pairwise_singleton _ _
 | p::q::r,h=>by
  unfold Es at h
  obtain⟨h1,h2⟩:=ad h
  have ih:=vU h2
  have hpq:p < q:=(jU _ _).1 h1
  refine List.pairwise_cons.2 ⟨fun x hx=>?_,ih⟩
  cases hx with
  | head=>exact hpq
  | tail _ hx=>exact Int.lt_trans hpq ((List.pairwise_cons.1 ih).1 x hx)
theorem oO:∀ ks:List Int,lT ks=ks.map (AV.int .i64)
 | []=>rfl
 | p::r=>by show AV.int .i64 p::lT r=_;rw [oO r];rfl
theorem nd:∀ ks:List Int,dh (lT ks)=true
 | []=>rfl
 | _::r=>nd r
theorem vV{ρ:Rho}:∀ ks:List Int,RelL ρ (ks.map (AV.int .i64)) (ks.map (Value.int .i64))
 | []=>.nil
 | _::r=>.cons _ _ _ _ (.int _ _) (vV r)
theorem zj{ks:List Int}(h:ks.Pairwise (· < ·)):ks.mergeSort leI=ks:=by
 refine List.mergeSort_of_pairwise ?_
 exact h.imp fun hlt=>by simpa [leI] using Int.le_of_lt hlt
theorem zk{n:Int}(h:fY n=true):(Lit.int .i64 n).wf=true:=by
 have h1:IntKind.i64.min=-9223372036854775808:=rfl
 have h2:IntKind.i64.max=9223372036854775807:=rfl
 simp only [Lit.wf,h1,h2,Bool.and_eq_true,decide_eq_true_eq]
 cases n with
 | ofNat a=>
  have h:Nat.blt a 9223372036854775808=true:=h
  rw [Nat.blt_eq] at h
  have e:Int.ofNat a=(a:Int):=rfl
  rw [e];omega
 | negSucc a=>
  have h:Nat.blt a 9223372036854775808=true:=h
  rw [Nat.blt_eq] at h
  rw [Int.negSucc_eq];omega
theorem sortedInt_ok{P:Program}{w0:Base}{f e:Nat}{it:Nat→Bool}(hc:SortedAtI P w0 f e it):PrimOk P w0 f (sortedInt it e):=by
 intro ρ h w args A v h' hs hr he
 unfold sortedInt cD at he
 split at he
 ·rename_i g bm
  cases hg:it g with
  | false=>rw [hg] at he;cases he
  | true=>
  rw [hg,cond_true] at he
  unfold kH at he
  split at he
  ·rename_i e1 m fz hbm
   cases hr with
   | cons _ F _ R hF hR=>
   cases hR
   cases hF with
   | func _ _ _ A1 B1 ha hb=>
   cases ha
   cases hb with
   | cons _ B2 _ R2 hB hR2=>
   cases hR2
   cases hB with
   | ptr _ _ Lm hLm=>
   obtain⟨o,ho,hlt,hobj⟩:=hs.obj bm Lm hLm
   rw [hbm] at ho
   injection ho with ho;subst ho
   obtain⟨_,C,q,hO,hsz,_,⟨hcb,hcr⟩,hbase,_⟩:=hobj
   obtain⟨hb0,htot⟩:=hbase rfl
   have hA:(⟨[.func (.func g) ⟨[]⟩ ⟨[.pointer (some ⟨Lm.B,Lm.base+0,none⟩)]⟩]⟩:Array Value)=#[.func (.func g) #[] #[.pointer (some ⟨Lm.B,0,none⟩)]]:=by rw [hb0]
   rw [hA]
   rw [hb0] at hcr
   have hcell:∀ V,Rel ρ m V→C.toList=[V]→w.cell? ⟨Lm.B,0,none⟩=some V:=by
    intro V _ hC
    have:C=#[V]:=by rw [←Array.toList_inj];exact hC
    simp [World.cell?,hO,this]
   obtain⟨V,hC,hV⟩:∃ V,C.toList=[V]∧Rel ρ m V:=by
    have hlen:C.toList.length=1:=by rw [Array.length_toList,hsz,htot];rfl
    rw [List.drop_zero,List.take_of_length_le (by rw [hlen];simp)] at hcr
    generalize C.toList=l at hcr
    cases hcr with
    | cons _ V _ R h1 h2=>cases h2;exact⟨V,rfl,h1⟩
   have hcell:=hcell V hV hC
   unfold kG at he
   split at he
   ·rename_i b
    cases hV with
    | map _ Lb hLb=>
    split at he
    ·rename_i es clock hgb
     obtain⟨o,ho,hltb,hobj⟩:=hs.obj b Lb hLb
     rw [hgb] at ho
     injection ho with ho;subst ho
     obtain⟨_,E,hOb,hE⟩:=hobj
     unfold vR at he
     cases hk:sortI es with
     | none=>rw [hk] at he;cases he
     | some ks=>
     rw [hk] at he
     have he:cond (cond (Es ks) (cond (gl clock es) (Nat.ble (len es) 100000) false) false) (fQ e (lT ks) h) none=some (v,h'):=he
     cases hc2:cond (Es ks) (cond (gl clock es) (Nat.ble (len es) 100000) false) false with
     | false=>rw [hc2] at he;cases he
     | true=>
     rw [hc2,cond_true] at he
     obtain⟨hasc,hc3⟩:=ad hc2
     obtain⟨hborn,hlen⟩:=ad hc3
     obtain⟨hb1,hb2⟩:=ad (show cond (qa clock (cW es)) (gu (cW es)) false=true from hborn)
     have hlen:=Nat.le_of_ble_eq_true hlen
     rw [aG] at hlen
     obtain⟨hperm,hint⟩:=t7 hk
     obtain⟨hkeys,hbnd⟩:=hE.ints hint
     have hEl:E.toList.length=es.length:=by
      have:=congrArg List.length hE.borns
      simpa using this
     have hpw:=vU hasc
     have hst:MapKept.Stamped E clock:=by
      refine⟨fun x hx=>?_,?_,?_⟩
      ·have h1:x.born ∈ E.toList.map (·.born):=List.mem_map.2 ⟨x,hx,rfl⟩
       rw [hE.borns,←cg] at h1
       exact fo hb1 _ h1
      ·rw [hE.borns,←cg];exact dx hb2
      ·rw [hkeys]
       have hnd:(ks.map (Value.int .i64)).Nodup:=by
        show List.Pairwise _ _
        rw [List.pairwise_map]
        exact hpw.imp fun {p q} hlt heq=>by injection heq with _ heq;omega
       exact ((hperm.map _).nodup_iff).1 hnd
     have hkeyS:∀ x ∈ E.toList,∃ n,x.key=.int .i64 n∧(Lit.int .i64 n).wf=true:=fun x hx=>by
      have h1:x.key ∈ E.toList.map (·.key):=List.mem_map.2 ⟨x,hx,rfl⟩
      rw [hkeys] at h1
      obtain⟨p,hp,e2⟩:=List.mem_map.1 h1
      obtain⟨y,hy,rfl⟩:=List.mem_map.1 hp
      exact⟨_,e2.symm,zk (hbnd y hy)⟩
     have hcall:=hc.some_ g hg w Lm.B Lb.B clock E hs.size hlt hcell hOb hst hkeyS (by rw [←Array.length_toList,hEl];exact hlen)
     refine hcall.mono ?_
     rintro en w' ⟨V,ss,rfl,hss,hown,hnil,hbel⟩
     have hss2:ss.Perm ks:=by
      have e1:(E.toList.map fun x=>keyInt x.key)=es.map vS:=by
       have:(E.toList.map fun x=>keyInt x.key)=(E.toList.map (·.key)).map keyInt:=by rw [List.map_map];rfl
       rw [this,hkeys,List.map_map]
       exact (List.map_congr_left fun _ _=>rfl).trans (List.map_id _)
      rw [e1] at hss
      exact hss.trans hperm.symm
     have hms:ss.mergeSort leI=ks:=(mergeSort_of_perm_i hss2).trans (zj hpw)
     have hl1:ss.length=(lT ks).length:=by rw [oO,List.length_map];exact hss2.length_eq
     rw [hms,hl1] at hown
     obtain⟨ρ',a1,a2,a3,a4⟩:=zi (v:=v) (h':=h') hs (nd ks) (fun ρ=>by rw [oO];exact vV ks) hown (by
      rw [hnil]
      constructor
      ·intro h0;subst h0;exact List.eq_nil_of_length_eq_zero hl1.symm
      ·intro h0;rw [h0] at hl1;exact List.eq_nil_of_length_eq_zero hl1) hbel he
     exact⟨ρ',V,rfl,a1,a2,a3,a4⟩
    ·cases he
    ·cases he
    ·cases he
   ·have he:some (AV.nilSlice,h)=some (v,h'):=he
    injection he with he;injection he with h1 h2;subst h1;subst h2
    cases hV
    refine (hc.nil_ g hg w Lm.B hs.size hlt hcell).mono ?_
    rintro en w' ⟨rfl,hbel⟩
    exact⟨ρ,_,rfl,Sub.refl _,Kept.refl _ _,.nilSlice,hs.grew (dk hbel)⟩
   ·cases he
  ·cases he
 ·cases he
theorem own_ofI{P:Program}{k:TypeId}(hk:P.underlying k=some (.int .i64)){w:World}{b clock:Nat}{es:Array MapEntry}(hb:w.heap[b]?=some (.map es clock))(hst:MapKept.Stamped es clock)(hkeys:∀ x ∈ es.toList,∃ n,x.key=.int .i64 n∧(Lit.int .i64 n).wf=true)(hsz:es.size≤100000):
  ∃ D0:DataW Unit,w.ownsMap P k (fun _=>some (.nil,[])) b es.size D0∧Maps.size D0=es.size∧(intKeys D0).Perm (es.toList.map fun x=>keyInt x.key):=by
 have hrd:∀ x ∈ es.toList,WideElems.rd (H:=Unit) P k (fun _=>some (.nil,[])) x=some (.int .i64 (keyInt x.key),.nil):=fun x hx=>by
  obtain⟨n,hn,hw⟩:=hkeys x hx
  have hkey:Go.keyOf P k (.int .i64 n)=some (.int .i64 n):=Maps.keyOf_int_mk hk hw
  simp [WideElems.rd,hn,hkey,keyInt]
 have hF:WideElems.Fit (H:=Unit) P k (fun _=>some (.nil,[])) es clock:=⟨Nat.le_trans hsz (by decide),hst,fun x hx=>⟨_,hrd x hx⟩⟩
 refine⟨_,⟨es,clock,hb,hF,Nat.le_refl _,rfl⟩,?_,?_⟩
 ·show ((es.toList.map (WideElems.rg (H:=Unit) P k fun _=>some (.nil,[]))).foldr DataW.insert []).length=es.size
  rw [(WideShapes.sorted_perm _).length_eq,List.length_map,Array.length_toList]
 ·show (((es.toList.map (WideElems.rg (H:=Unit) P k fun _=>some (.nil,[]))).foldr DataW.insert []).map fun p=>Go.intOf p.1).Perm _
  refine ((WideShapes.sorted_perm _).map _).trans ?_
  rw [List.map_map]
  refine .of_eq (List.map_congr_left fun x hx=>?_)
  show Go.intOf (WideElems.rg P k _ x).1=_
  rw [WideElems.rg_of (hrd x hx)]
  rfl
end Go.VM
end
noncomputable section
namespace Go.VM
open Go.RowKit
def uZ(l c:Nat):Nat→Nat
 | 0=>0
 | n+1=>c+Nat.shiftLeft (uZ l c n) (8 * l)
def Fv(l c n:Nat)(h:Heap):Option (AV × Heap):=ak (l * n) (fun m=>ak (uZ l c n) (fun d=>some (.str m d,h)))
def repeatP(args:List AV)(h:Heap):Option (AV × Heap):=match args with
 | [.str l c,.int .i64 (.ofNat n)]=>cond (and (Nat.ble n 100000) (Nat.ble (l * n) 1000000)) (Fv l c n h) none
 | _=>none
def RepeatAt(P:Program)(w0:Base)(f:Nat):Prop:=∀ (s:ByteArray) (c:Nat) (w:World),w0.w.heap.size≤w.heap.size→c≤100000→s.size * c≤1000000→
 Calls P f #[.string s,.int .i64 c] w fun e w'=>e=.returned (.string ⟨(Lib.repeatL s.data.toList c).toArray⟩)∧Below w.heap.size w w'
theorem CJ{l c:Nat}(hc:c < 256 ^ l):∀ n,uZ l c n < 256 ^ (l * n)∧ac (l * n) (uZ l c n)=Lib.repeatL (ac l c) n
 | 0=>by simp [uZ,Lib.repeatL,ac]
 | n+1=>by
  obtain⟨h1,h2⟩:=CJ hc n
  have e:l * (n+1)=l+l * n:=by rw [Nat.mul_succ,Nat.add_comm]
  have hsh:uZ l c (n+1)=c+256 ^ l * uZ l c n:=by
   show c+Nat.shiftLeft (uZ l c n) (8 * l)=_
   rw [Au]
  refine⟨?_,?_⟩
  ·rw [e,hsh];exact As hc h1
  ·rw [e,hsh,dn _ _ _ _ hc,h2];rfl
theorem repeatP_ok{P:Program}{w0:Base}{f:Nat}(hc:RepeatAt P w0 f):PrimOk P w0 f repeatP:=by
 intro ρ h w args A v h' hs hr he
 unfold repeatP at he
 split at he
 ·rename_i l c n
  cases hb:and (Nat.ble n 100000) (Nat.ble (l * n) 1000000) with
  | false=>rw [hb] at he;cases he
  | true=>
   rw [hb,cond_true] at he
   rw [Bool.and_eq_true] at hb
   have h1:=Nat.le_of_ble_eq_true hb.1
   have h2:=Nat.le_of_ble_eq_true hb.2
   unfold Fv at he
   rw [af,af] at he
   injection he with he;injection he with e1 e2;subst e1;subst e2
   obtain⟨X,Y,rfl,hx,hy⟩:=EZ hr
   cases hx;cases hy
   rename_i hcl
   obtain⟨k1,k2⟩:=CJ hcl n
   refine (hc (strOf l c) n w hs.size h1 (by rw [aI];exact h2)).mono ?_
   rintro en w' ⟨rfl,hbel⟩
   refine⟨ρ,_,rfl,Sub.refl _,Kept.refl _ _,?_,hs.grew (dk hbel)⟩
   have:(⟨(Lib.repeatL (strOf l c).data.toList n).toArray⟩:ByteArray)=strOf (l * n) (uZ l c n):=by
    show _=(⟨⟨ac (l * n) (uZ l c n)⟩⟩:ByteArray)
    rw [k2];rfl
   rw [this]
   exact .str _ _ k1
 ·cases he
end Go.VM
end
noncomputable section
namespace Go.VM
section
variable {w0:Base} {w:World} {ρ:Rho} {h:Heap}
theorem Sim.addSym(hs:Sim w0 ρ h w){b:Key}(hb:h.get b=none)(hz:0 < w.heap.size){ds:List Nat}{j:Nat}(hm:j ∈ ds):Sim w0 (ρ.add b ⟨0,j,0⟩) (h.put b (.dom ds)) w:=by
 have hn:=hs.none_of_get hb
 have hsub:Sub ρ (ρ.add b ⟨0,j,0⟩):=Rho.sub_add hn
 have other:∀ k K,(ρ.add b ⟨0,j,0⟩) k=some K→b≠k→ρ k=some K:=fun k K e hk=>by simpa [Rho.add,hk] using e
 refine⟨hs.os,hs.out,hs.size,hs.old,hs.sub.trans hsub,?_,?_⟩
 ·intro k K e
  by_cases hk:b=k
  ·subst hk
   rw [Rho.add_same] at e;cases e
   exact⟨_,Heap.get_put_same h b _,hz,hm⟩
  ·obtain⟨o,ho,hlt,hr⟩:=hs.obj k K (other k K e hk)
   exact⟨o,by rw [Heap.get_put_other h b k _ hk];exact ho,hlt,hr.mono hsub⟩
 ·intro b1 b2 L1 L2 o1 o2 e1 e2 g1 g2 l1 l2 hB
  have key:∀ bx ox,(h.put b (.dom ds)).get bx=some ox→ox.live=true→b≠bx∧h.get bx=some ox:=by
   intro bx ox g l
   by_cases hx:b=bx
   ·subst hx;rw [Heap.get_put_same] at g;cases g;cases l
   ·rw [Heap.get_put_other h b bx _ hx] at g;exact⟨hx,g⟩
  obtain⟨n1,g1⟩:=key _ _ g1 l1
  obtain⟨n2,g2⟩:=key _ _ g2 l2
  exact hs.inj b1 b2 L1 L2 o1 o2 (other _ _ e1 n1) (other _ _ e2 n2) g1 g2 l1 l2 hB
end
section
variable [H:Hook] {P:Program}
def wX(sy:List (Key × List Nat))(h:Heap):Heap:=match sy with
 | []=>h
 | p::r=>wX r (h.put p.1 (.dom p.2))
def freeAt(o:Option AObj)(r:Bool):Bool:=match o with
 | none=>r
 | some _=>false
def freeSyms:List (Key × List Nat)→Heap→Bool
 | [],_=>true
 | p::r,h=>freeAt (h.get p.1) (freeSyms r (h.put p.1 (.dom p.2)))
def oP(ρ:Rho):List (Key × List Nat)→List Nat→Rho
 | p::r,j::js=>oP (ρ.add p.1 ⟨0,j,0⟩) r js
 | _,_=>ρ
def Bs:List (Key × List Nat)→List Nat→Prop
 | [],[]=>True
 | p::r,j::js=>j ∈ p.2∧Bs r js
 | _,_=>False
omit H in
theorem t8{w0:Base}{w:World}(hz:0 < w.heap.size):∀ {sy:List (Key × List Nat)} {js:List Nat} {ρ:Rho} {h:Heap},Sim w0 ρ h w→freeSyms sy h=true→Bs sy js→Sim w0 (oP ρ sy js) (wX sy h) w∧Sub ρ (oP ρ sy js)
 | [],[],_,_,hs,_,_=>⟨hs,Sub.refl _⟩
 | [],_::_,_,_,_,_,hj=>hj.elim
 | _::_,[],_,_,_,_,hj=>hj.elim
 | p::r,j::js,ρ,h,hs,hf,hj=>by
  have hf:freeAt (h.get p.1) (freeSyms r (h.put p.1 (.dom p.2)))=true:=hf
  cases hg:h.get p.1 with
  | some x=>rw [hg] at hf;cases hf
  | none=>
   rw [hg] at hf
   obtain⟨h1,h2⟩:=t8 hz (hs.addSym hg hz hj.1) hf hj.2
   exact⟨h1,(Rho.sub_add (hs.none_of_get hg)).trans h2⟩
def startStS(P:Program)(laid:List (Nat × AObj))(f:Nat)(args:List AV)(sy:List (Key × List Nat))(k:Key):St:=match bodyOf P f with
 | some c=>enter P f args .normal [] (wX sy ⟨startT laid P.globals.size,k⟩) c
 | none=>.bad "no body"
theorem truth_sym(hR:RowsOk P)(hF:P.follows .mixedOrders=true)(h64:P.globals.size≤64){laid:List (Nat × AObj)}{tot:Nat→Nat}{f:Nat}{args:List AV}{A:List Value}{w:World}(hS:SumOk P (Base.at w (startRho tot P.globals.size)))(hw:LaidOk P laid tot w)(hz:0 < w.heap.size)
  {sy:List (Key × List Nat)} {js:List Nat} {k:Key} (hfree:freeSyms sy ⟨startT laid P.globals.size,k⟩=true) (hj:Bs sy js) (hr:RelL (oP (startRho tot P.globals.size) sy js) args A) {n:Nat} (hrun:runF P isTrue n (startStS P laid f args sy k)=true):
  Calls P f ⟨A⟩ w fun e w'=>e=.returned (.bool true)∧Grew w w':=by
 rw [eQ] at hrun
 unfold startStS at hrun
 cases hb:bodyOf P f with
 | none=>rw [hb] at hrun;cases n<;>cases hrun
 | some c=>
  rw [hb] at hrun
  have h0:=kF (laid:=laid) (tot:=tot) h64 hw.1 (fun g o hg hl ρ=>hw.2 g o hg hl _ ρ)
  have hs:Sim (Base.at w (startRho tot P.globals.size)) (startRho tot P.globals.size) ⟨startT laid P.globals.size,k⟩ w:=⟨h0.os,h0.out,h0.size,h0.old,h0.sub,h0.obj,h0.inj⟩
  obtain⟨hs2,hsub⟩:=t8 hz hs hfree hj
  refine (cU ⟨⟩ ⟨cq hR,hS⟩ hF hs2 ((iB h64).mono hsub) hr hb hrun).mono ?_
  rintro e w' ⟨ρ',v,V,h,rfl,hv,hs',_,hpost⟩
  exact⟨by rw [sN hv hpost],Grew.of_sim hs'.std⟩
end
end Go.VM
end
