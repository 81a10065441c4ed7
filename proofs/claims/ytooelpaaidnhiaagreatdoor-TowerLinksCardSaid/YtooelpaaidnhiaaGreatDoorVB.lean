/- The evaluator's operations do what the model's do, second part. No conditions: a library text of the proof. -/
import Derived.Test.YtooelpaaidnhiaaGreatDoorVA
import Derived.LaidEqlPtr
import Derived.Laws.StructEq
import Derived.Laws.RangeString
namespace Go.VM
section
variable {P:Program} {w0:Base} {ρ:Rho} {h:Heap} {w:World}
def NextOk(P:Program)(w0:Base)(ρ:Rho)(h:Heap)(w:World)(s:Sem Next):Res→Prop
 | .val v h'=>∃ ρ' w',Sub ρ ρ'∧Kept ρ h ρ' h'∧Sim w0 ρ' h' w'∧((∃ V,Rel ρ' v V∧s.run P w=.ok (.value V) w')∨(v=.undef∧s.run P w=.ok .skip w'))
 | .enter f args h'=>h'=h∧∃ A,RelL ρ args A∧s.run P w=(callFunc f ⟨A⟩).run P w
 | .round l args h'=>h'=h∧∃ L A,ρ l=some L∧RelL ρ args A∧s.run P w=(Instr.yield L.B ⟨A⟩).run P w
 | .defer d h'=>h'=h∧∃ D,DRel ρ d D∧s.run P w=.ok (.defer D) w
 | .recover h'=>h'=h∧s.run P w=.ok .recover w
 | .pan v h'=>h'=h∧∃ V,Rel ρ v V∧s.run P w=.halt (.panic V) w
 | .alts l=>∃ p,p ∈ l∧∃ ρ' V w',Sub ρ ρ'∧Kept ρ h ρ' p.2∧Sim w0 ρ' p.2 w'∧Rel ρ' p.1 V∧s.run P w=.ok (.value V) w'
 | .bad _=>True
theorem ae{s:Sem Value}{r:Res}(hr:ValOk P w0 ρ h w s r):NextOk P w0 ρ h w (do pure (.value (←s))) r:=by
 cases r with
 | val v h'=>
  obtain⟨ρ',V,w',a,b,c,d,e⟩:=hr
  exact⟨ρ',w',a,b,c,.inl ⟨V,d,by simp [e]⟩⟩
 | bad=>exact trivial
 | alts l=>
  obtain⟨p,hp,ρ',V,w',a,b,c,d,e⟩:=hr
  exact⟨p,hp,ρ',V,w',a,b,c,d,by simp [e]⟩
 | _=>exact hr.elim
theorem ic{s:Sem Unit}{r:Res}(hr:oG P w0 ρ h w s r):NextOk P w0 ρ h w (do s;pure .skip) r:=by
 cases r with
 | val v h'=>
  obtain⟨rfl,ρ',w',a,b,c,e⟩:=hr
  exact⟨ρ',w',a,b,c,.inr ⟨rfl,by simp [e]⟩⟩
 | bad=>exact trivial
 | _=>exact hr.elim
def Lf(x:Value):Sem Next:=match x with
 | .pointer none | .nilIface | .nilFunc=>runtimePanic .nilDeref
 | x=>pure (.value x)
theorem Hn(hs:Sim w0 ρ h w){v:AV}{V:Value}(hv:Rel ρ v V){o:Oper}{x:Operand}(ho:o.op=.nilCheck x){E:Operand→Value}(hE:E x=V):NextOk P w0 ρ h w (execOp E o) (EC v h):=by
 have key:∀ V,(∀ n a b,V≠.func (.method n) a b)→V≠.pointer none→V≠.nilIface→V≠.nilFunc→E x=V→(execOp E o).run P w=.ok (.value V) w:=by
  intro V h1 h2 h3 h4 hEx
  unfold execOp
  rw [ho]
  dsimp only
  rw [hEx]
  cases V with
  | pointer a=>cases a with
   | none=>exact absurd rfl h2
   | some a=>rfl
  | nilIface=>exact absurd rfl h3
  | nilFunc=>exact absurd rfl h4
  | func f a b=>cases f with
   | method n=>exact absurd rfl (h1 n a b)
   | _=>rfl
  | _=>rfl
 have fin:∀ v V,Rel ρ v V→E x=V→(∀ n a b,V≠.func (.method n) a b)→V≠.pointer none→V≠.nilIface→V≠.nilFunc→NextOk P w0 ρ h w (execOp E o) (.val v h):=
  fun v V hr hEx h1 h2 h3 h4=>⟨ρ,w,Sub.refl _,Kept.refl _ _,hs,.inl ⟨V,hr,key V h1 h2 h3 h4 hEx⟩⟩
 cases hv with
 | nilPtr=>exact trivial
 | nilFunc=>exact trivial
 | nilIface=>exact trivial
 | undef=>exact trivial
 | junk=>exact trivial
 | bool b=>exact fin _ _ (.bool b) hE (by simp) (by simp) (by simp) (by simp)
 | int k n=>exact fin _ _ (.int k n) hE (by simp) (by simp) (by simp) (by simp)
 | red k m c j n hr=>exact fin _ _ (.red k m c j n hr) hE (by simp) (by simp) (by simp) (by simp)
 | reds k m c b L n hb hr=>exact fin _ _ (.reds k m c b L n hb hr) hE (by simp) (by simp) (by simp) (by simp)
 | tab b ds vs L V hb hp hr=>rcases jX hp hr with ⟨_,_,_,_,rfl⟩ | ⟨_,_,_,rfl⟩ | ⟨_,_,rfl⟩<;>exact fin _ _ (.tab b ds vs L _ hb hp hr) hE (by simp) (by simp) (by simp) (by simp)
 | ustr l s hl=>exact fin _ _ (.ustr l s hl) hE (by simp) (by simp) (by simp) (by simp)
 | ofs k b off L n hb hn=>exact fin _ _ (.ofs k b off L n hb hn) hE (by simp) (by simp) (by simp) (by simp)
 | sliceG a b L M c ha hb=>exact fin _ _ (.sliceG a b L M c ha hb) hE (by simp) (by simp) (by simp) (by simp)
 | nan b hb=>exact fin _ _ (.nan b hb) hE (by simp) (by simp) (by simp) (by simp)
 | rng lo hi n h1 h2=>exact fin _ _ (.rng lo hi n h1 h2) hE (by simp) (by simp) (by simp) (by simp)
 | byte b=>exact fin _ _ (.byte b) hE (by simp) (by simp) (by simp) (by simp)
 | float k n=>exact fin _ _ (.float k n) hE (by simp) (by simp) (by simp) (by simp)
 | str l c hc=>exact fin _ _ (.str l c hc) hE (by simp) (by simp) (by simp) (by simp)
 | ptr b o L hb=>exact fin _ _ (.ptr b o L hb) hE (by simp) (by simp) (by simp) (by simp)
 | nilSlice=>exact fin _ _ .nilSlice hE (by simp) (by simp) (by simp) (by simp)
 | emptyS a c=>exact fin _ _ (.emptyS a c) hE (by simp) (by simp) (by simp) (by simp)
 | sliceIs b off len c L hb=>exact fin _ _ (.sliceIs b off len c L hb) hE (by simp) (by simp) (by simp) (by simp)
 | sliceMore b off len c sz L hb h1 h2=>exact fin _ _ (.sliceMore b off len c sz L hb h1 h2) hE (by simp) (by simp) (by simp) (by simp)
 | nilMap=>exact fin _ _ .nilMap hE (by simp) (by simp) (by simp) (by simp)
 | map b L hb=>exact fin _ _ (.map b L hb) hE (by simp) (by simp) (by simp) (by simp)
 | func f a b A B ha hb=>exact fin _ _ (.func f a b A B ha hb) hE (by simp) (by simp) (by simp) (by simp)
 | yield l L hl=>exact fin _ _ (.yield l L hl) hE (by simp) (by simp) (by simp) (by simp)
 | iface t v V hv=>exact fin _ _ (.iface t v V hv) hE (by simp) (by simp) (by simp) (by simp)
 | agg a A ha=>exact fin _ _ (.agg a A ha) hE (by simp) (by simp) (by simp) (by simp)
 | tup a A ha=>exact fin _ _ (.tup a A ha) hE (by simp) (by simp) (by simp) (by simp)
theorem lG{v:AV}{V a:Value}(hv:Rel ρ v V)(ha:eh v=some a):a=V:=by
 cases hv<;>simp [eh] at ha<;>exact ha.symm
theorem EN(hs:Sim w0 ρ h w){op:UnOp}{v:AV}{V:Value}(hv:Rel ρ v V):ValOk P w0 ρ h w (Op.unary op V) (xUn P op v h):=by
 have gen:ValOk P w0 ρ h w (Op.unary op V) (match eh v with | some a=>scalV (aS P (Op.unary op a)) h "unOp" | none=>.bad "unOp"):=by
  cases ha:eh v with
  | none=>exact trivial
  | some a=>rw [lG hv ha];exact gA hs
 unfold xUn
 split
 ·cases hv with
  | bool b=>rw [bY];exact au hs (.bool _) (by simp [Op.unary])
 ·exact gen
theorem eR{k:IntKind}{n:Int}:(asInt (.int k n)).run P w=.ok n w:=by simp [asInt,asIntOf]
theorem eK{t:Nat}{i:TypeInfo}(hi:P.info? t=some i):(typeInfo t).run P w=.ok i w:=by simp [typeInfo,hi]
theorem yg(n:Nat):(askRoom n).run P w=.ok () w:=by unfold askRoom;split<;>simp
theorem Ax(hs:Sim w0 ρ h w){e k:Nat}{Cs:List Value}(hr:RelL ρ (ag RT.nil k) Cs){s:Sem Value}{V:Value}
  (hrun:s.run P w=.ok V (w.alloc (.cells Cs.toArray e))) {v:Key→AV} (hv:∀ b,Rel (ρ.add b ⟨w.heap.size,0,(ag RT.nil k).length⟩) (v b) V):
  ValOk P w0 ρ h w s (h.alloc (.pack e k RT.nil) (fun b h=>.val (v b) h)):=
 fe hs (L:=⟨w.heap.size,0,(ag RT.nil k).length⟩) rfl (fun b hn=>(lL hs.new hr (Rho.sub_add hn):ObjRel _ (ρ.add b ⟨w.heap.size,0,(ag RT.nil k).length⟩) _ _ (.cells e (ag RT.nil k) false 0)))
  (fun b _ _ hsub hk hs'=>⟨_,V,_,hsub,hk,hs',hv b,hrun⟩)
theorem Ho{z:AV}(h:Jo z=true):z=.int .u8 0:=by
 unfold Jo at h
 split at h
 ·rfl
 ·cases h
theorem J9{z:AV}(h:isF z=true):z=.bool false:=by
 unfold isF at h
 split at h
 ·rfl
 ·cases h
theorem vh:∀ c:Nat,bG c 0=rep c (AV.bool false).cells
 | 0=>rfl
 | c+1=>by
  show AV.bool (cK 0 0)::bG c (Nat.shiftRight 0 1)=AV.bool false::rep c (AV.bool false).cells
  rw [←vh c]
  rfl
theorem Ay(hs:Sim w0 ρ h w){e n:Nat}{Cs:List Value}(hr:RelL ρ (bG n 0) Cs){s:Sem Value}{V:Value}
  (hrun:s.run P w=.ok V (w.alloc (.cells Cs.toArray e))) {v:Key→AV} (hv:∀ b,Rel (ρ.add b ⟨w.heap.size,0,(bG n 0).length⟩) (v b) V):
  ValOk P w0 ρ h w s (h.alloc (.bits e n 0) (fun b h=>.val (v b) h)):=
 fe hs (L:=⟨w.heap.size,0,(bG n 0).length⟩) rfl (fun b hn=>(lL hs.new hr (Rho.sub_add hn):ObjRel _ (ρ.add b ⟨w.heap.size,0,(bG n 0).length⟩) _ _ (.cells e (bG n 0) false 0)))
  (fun b _ _ hsub hk hs'=>⟨_,V,_,hsub,hk,hs',hv b,hrun⟩)
theorem EO(hs:Sim w0 ρ h w){e l c:Nat}{z:AV}{Cs:List Value}(hr:RelL ρ (rep c z.cells) Cs){s:Sem Value}
  (hrun:s.run P w=.ok (.slice (some ⟨w.heap.size,0,none⟩) l c) (w.alloc (.cells Cs.toArray e))):ValOk P w0 ρ h w s (zK P e l c z h):=by
 unfold zK
 refine aa (fun hp=>?_) (fun _=>aa (fun hp=>?_) (fun _=>fM hs hr hrun (fun b=>Rel.sliceIs b 0 l c ⟨w.heap.size,0,_⟩ (Rho.add_same _ _ _))))
 rotate_left
 ·simp only [Bool.and_eq_true] at hp
  obtain rfl:=J9 hp.1
  rw [←vh] at hr
  exact Ay hs hr hrun (fun b=>Rel.sliceIs b 0 l c ⟨w.heap.size,0,_⟩ (Rho.add_same _ _ _))
 unfold tZ at hp
 simp only [Bool.and_eq_true] at hp
 obtain⟨⟨_,hz⟩,hm,_⟩:=hp
 obtain rfl:=Ho hz
 have hm:c % 256=0:=Nat.eq_of_beq_eq_true hm
 have e0:rep c (AV.int .u8 0).cells=ag RT.nil (c / 256):=by
  rw [lm,show 256 * (c / 256)=c by omega];rfl
 rw [e0] at hr
 exact Ax hs hr hrun (fun b=>Rel.sliceIs b 0 l c ⟨w.heap.size,0,_⟩ (Rho.add_same _ _ _))
theorem uM(_hP:TypesOk P)(hs:Sim w0 ρ h w){t:Nat}{l c:AV}{Lv Cv:Value}(hl:Rel ρ l Lv)(hc:Rel ρ c Cv):ValOk P w0 ρ h w (Instr.makeSlice t Lv Cv) (dr P t l c h):=by
 unfold dr
 split
 ·rename_i e kl l kc c hu
  cases hl;cases hc
  cases hz:bK P e with
  | none=>exact trivial
  | some z=>
   dsimp only
   refine aa (fun hcond=>?_) (fun _=>trivial)
   simp only [Bool.and_eq_true] at hcond
   obtain⟨⟨h1,h2⟩,h3,h4⟩:=hcond
   have h1:=Nat.le_of_ble_eq_true h1
   have h2:=Nat.eq_of_beq_eq_true h2
   have h3:=Nat.le_of_ble_eq_true h3
   have h4:=Nat.le_of_ble_eq_true h4
   obtain⟨i,hi⟩:∃ i,P.info? e=some i:=by
    unfold bK at hz
    cases hi:P.info? e with
    | none=>simp [hi] at hz
    | some i=>exact⟨i,rfl⟩
   have hby:iJ P e=i.bytes:=by simp [iJ,hi]
   rw [hby] at h4
   obtain⟨Cs,hr,hzc⟩:=vg (ρ:=ρ) (w:=w) hz hi h2 c
   refine EO hs hr ?_
   have w1:IntKind.i64.wrap (Int.ofNat l)=l:=mu (by simp [fY];omega)
   have w2:IntKind.i64.wrap (Int.ofNat c)=c:=mu (by simp [fY];omega)
   have hm:i.bytes * c≤8388608000000:=Nat.le_trans (Nat.mul_le_mul h4 h3) (by decide)
   have c1:¬ ((i.bytes:Int) * (c:Int) > 2 ^ 48):=by
    rw [←Int.natCast_mul];generalize i.bytes * c=m at hm;omega
   have c2:¬ ((l:Int) > (c:Int)):=by omega
   have c3:¬ ((c:Int) < 0):=by omega
   have c4:¬ ((l:Int) < 0):=by omega
   have t1:(decide ((c:Int) < 0) || decide ((i.bytes:Int) * (c:Int) > 2 ^ 48))=false:=by simp;omega
   simp only [Instr.makeSlice,Sem.run_bind,a8 hu,Result.andThen_ok,eR,eK hi,w1,w2,t1]
   have t2:((false || decide ((l:Int) < 0)) || decide ((l:Int) > (c:Int)))=false:=by simp;omega
   simp only [t2,Bool.false_eq_true,if_false,Sem.run_bind,yg,Result.andThen_ok,ay hi,Int.toNat_natCast]
   rcases hzc with ⟨h0,hc0⟩ | ⟨h0,Z,hZ,hc0⟩
   ·simp only [if_pos h0,Sem.run_bind,Sem.run_pure,Result.andThen_ok]
    simp only [hc0]
    simp [newRow]
   ·simp only [if_neg h0,Sem.run_bind,Sem.run_pure,Result.andThen_ok,hZ]
    simp only [hc0]
    simp [newRow]
 ·exact trivial
theorem Az(hs:Sim w0 ρ h w){t:Nat}{x:Option AV}{X:Option Value}(hx:match x,X with | none,none=>True | some a,some A=>Rel ρ a A | _,_=>False):
  ValOk P w0 ρ h w (Instr.makeMap t X) (cond (mc P t x) (h.alloc (.map [] 0) (fun b h=>.val (.map b) h)) (.bad "makeMap")):=by
 refine aa (fun hc=>?_) (fun _=>trivial)
 refine fe hs (O:=.map #[] 0) (L:=⟨w.heap.size,0,0⟩) rfl (fun b _=>⟨hs.new,#[],rfl,ERel.nil⟩) (fun b h' _ hsub hk hs'=>⟨_,.map (some w.heap.size),_,hsub,hk,hs',.map b ⟨w.heap.size,0,0⟩ (Rho.add_same _ _ _),?_⟩)
 cases x with
 | none=>
  cases X with
  | none=>simp [Instr.makeMap]
  | some _=>exact hx.elim
 | some a=>
  cases X with
  | none=>exact hx.elim
  | some A=>
   unfold mc at hc
   cases hx with
   | int k n=>
    dsimp only at hc
    cases hu:P.underlying t with
    | none=>simp [hu] at hc
    | some d=>
     cases d with
     | map kt et=>simp [Instr.makeMap,a8 hu,eR]
     | _=>simp [hu] at hc
   | _=>simp at hc
theorem EP(hs:Sim w0 ρ h w){t:Nat}{v:AV}{V:Value}(hv:Rel ρ v V):ValOk P w0 ρ h w (Instr.makeInterface t V) (cond (nV P t) (.val (.iface t v) h) (.bad "makeInterface")):=by
 refine aa (fun hc=>?_) (fun _=>trivial)
 refine au hs (.iface t v V hv) ?_
 unfold nV at hc
 cases hu:P.underlying t with
 | none=>simp [hu] at hc
 | some d=>cases d<;>first | (simp [hu] at hc;done) | simp [Instr.makeInterface,a8 hu]
theorem Hp(hs:Sim w0 ρ h w){f:Fn}{a b:List AV}{A B:List Value}(ha:RelL ρ a A)(hb:RelL ρ b B):ValOk P w0 ρ h w (Instr.makeFunc f ⟨A⟩ ⟨B⟩) (zQ f a b h):=by
 cases f with
 | func f=>exact au hs (.func f a b A B ha hb) (by simp [Instr.makeFunc])
 | _=>exact trivial
theorem Cm(hs:Sim w0 ρ h w){want:Nat}{cok:Bool}{s:Sem Value}(hrun:∀ Z,(zeroValue want).run P w=.ok Z w→cok=true→s.run P w=.ok (.tuple #[Z,.bool false]) w):ValOk P w0 ρ h w s (ED P want cok h):=by
 unfold ED
 refine aa (fun hc=>?_) (fun _=>trivial)
 cases hz:bK P want with
 | none=>exact trivial
 | some z=>
  obtain⟨Z,hr,ho⟩:=cz (w:=w) hz
  exact au hs (.tup _ [Z,.bool false] (.cons _ _ _ _ (cT ρ Z z ho) (.cons _ _ _ _ (.bool false) .nil))) (hrun Z hr hc)
theorem AA(hs:Sim w0 ρ h w){want xt:Nat}{cok:Bool}{v:AV}{V:Value}(hv:Rel ρ v V):ValOk P w0 ρ h w (Instr.typeAssert V xt want cok) (kV P v want cok h):=by
 unfold kV
 cases hu:P.underlying want with
 | none=>exact trivial
 | some d=>
  have gen:(∀ ms,d≠.interface ms)→ValOk P w0 ρ h w (Instr.typeAssert V xt want cok) (nS P v want cok h):=by
   intro hd
   cases hv with
   | iface t v V hv=>
    dsimp only [nS]
    refine aa (fun hc=>?_) (fun hc=>?_)
    ·have:=Nat.eq_of_beq_eq_true hc
     subst this
     cases cok
     ·exact au hs hv (by cases d<;>first | (exact absurd rfl (hd _)) | simp [Instr.typeAssert,a8 hu])
     ·exact au hs (.tup _ [V,.bool true] (.cons _ _ _ _ hv (.cons _ _ _ _ (.bool true) .nil))) (by cases d<;>first | (exact absurd rfl (hd _)) | simp [Instr.typeAssert,a8 hu])
    ·have hne:t≠want:=by intro e;subst e;simp at hc
     refine Cm hs fun Z hZ hco=>?_
     subst hco
     cases d<;>first | (exact absurd rfl (hd _)) | simp [Instr.typeAssert,a8 hu,hne,hZ]
   | nilIface=>
    refine Cm hs fun Z hZ hco=>?_
    subst hco
    cases d<;>first | (exact absurd rfl (hd _)) | simp [Instr.typeAssert,a8 hu,hZ]
   | _=>exact trivial
  cases d with
  | interface ms=>exact trivial
  | _=>exact gen (by simp)
theorem jV(hs:Sim w0 ρ h w){o:AObj}{O:Obj}{v:Key→AV}{V:Value}{s:Sem Value}{tot:Nat}(ho:∀ ρ',Sub ρ ρ'→ObjRel w0.F ρ' ⟨w.heap.size,0,tot⟩ (some O) o)
  (hrun:s.run P w=.ok V (w.alloc O)) (hv:∀ b,Rel (ρ.add b ⟨w.heap.size,0,tot⟩) (v b) V):ValOk P w0 ρ h w s (h.alloc o (fun b h=>.val (v b) h)):=
 fe hs (L:=⟨w.heap.size,0,tot⟩) rfl (fun _ hn=>ho _ (Rho.sub_add hn)) (fun b _ _ hsub hk hs'=>⟨_,V,_,hsub,hk,hs',hv b,hrun⟩)
theorem ai{B:Nat}{O:Obj}(hO:w.heap[B]?=some O)(hne:∀ C e q,O≠.cells C e q):(getObj B).run P w=.ok O w:=by
 unfold getObj
 cases O<;>first | (exact absurd rfl (hne _ _ _)) | simp [Sem.run,hO]
theorem vi{α β:Type}{f:α→β}:∀ {m:List β} {l:List α},(l.map f).Perm m→∃ l',l'.map f=m∧l.Perm l'
 | [],l,hp=>by
  have:l=[]:=by simpa using hp.length_eq
  subst this
  exact⟨[],rfl,.nil⟩
 | b::m,l,hp=>by
  have hb:b ∈ l.map f:=hp.mem_iff.2 List.mem_cons_self
  obtain⟨a,ha,rfl⟩:=List.mem_map.1 hb
  obtain⟨l1,l2,rfl⟩:=List.append_of_mem ha
  have h1:((l1++l2).map f).Perm m:=by
   have h2:(f a::(l1++l2).map f).Perm (f a::m):=by
    refine List.Perm.trans ?_ hp
    rw [List.map_append,List.map_append,List.map_cons]
    exact List.perm_middle.symm
   exact h2.cons_inv
  obtain⟨l',h2,h3⟩:=vi h1
  exact⟨a::l',by rw [List.map_cons,h2],List.perm_middle.trans (h3.cons a)⟩
theorem ValOk.from{ρ1:Rho}{h1:Heap}{s:Sem Value}{r:Res}(hsub:Sub ρ ρ1)(hk:Kept ρ h ρ1 h1)(hr:ValOk P w0 ρ1 h1 w s r):ValOk P w0 ρ h w s r:=by
 have val:∀ v h',dv P w0 ρ1 h1 w s v h'→dv P w0 ρ h w s v h':=fun v h' ⟨ρ',V,w',a,b,c,d,e⟩=>⟨ρ',V,w',hsub.trans a,hk.trans b,c,d,e⟩
 cases r with
 | val v h'=>exact val v h' hr
 | alts l=>obtain⟨p,hp,hv⟩:=hr;exact⟨p,hp,val _ _ hv⟩
 | bad=>exact trivial
 | _=>exact hr
theorem Sim.name(hs:Sim w0 ρ h w){b:Key}{L:Loc}(hb:h.get b=none)(hL:L.B < w.heap.size):Sim w0 (ρ.add b L) (h.put b .dead) w:=by
 have hn:=hs.none_of_get hb
 have hsub:Sub ρ (ρ.add b L):=Rho.sub_add hn
 have other:∀ k K,(ρ.add b L) k=some K→b≠k→ρ k=some K:=fun k K e hk=>by simpa [Rho.add,hk] using e
 refine⟨hs.os,hs.out,hs.size,hs.old,hs.sub.trans hsub,?_,?_⟩
 ·intro k K e
  by_cases hk:b=k
  ·subst hk
   rw [Rho.add_same] at e;cases e
   exact⟨_,Heap.get_put_same h b _,hL,trivial⟩
  ·obtain⟨o,ho,hlt,hrel⟩:=hs.obj k K (other k K e hk)
   exact⟨o,by rw [Heap.get_put_other h b k _ hk];exact ho,hlt,hrel.mono hsub⟩
 ·intro b1 b2 L1 L2 o1 o2 e1 e2 g1 g2 l1 l2 hB
  have key:∀ bx Lx ox,(ρ.add b L) bx=some Lx→(h.put b .dead).get bx=some ox→ox.live=true→ρ bx=some Lx∧h.get bx=some ox:=by
   intro bx Lx ox e g l
   by_cases hx:b=bx
   ·subst hx;rw [Heap.get_put_same] at g;cases g;cases l
   ·rw [Heap.get_put_other h b bx _ hx] at g;exact⟨other _ _ e hx,g⟩
  obtain⟨x1,y1⟩:=key _ _ _ e1 g1 l1
  obtain⟨x2,y2⟩:=key _ _ _ e2 g2 l2
  exact hs.inj b1 b2 L1 L2 o1 o2 x1 x2 y1 y2 l1 l2 hB
theorem Cn(hs:Sim w0 ρ h w){k:Key→Heap→Res}{s:Sem Value}{L:Loc}(hL:L.B < w.heap.size)
  (hk:∀ b h',Sub ρ (ρ.add b L)→Kept ρ h (ρ.add b L) h'→(∀ x o,h.get x=some o→h'.get x=some o)→Sim w0 (ρ.add b L) h' w→(ρ.add b L) b=some L→ValOk P w0 (ρ.add b L) h' w s (k b h')):ValOk P w0 ρ h w s (h.alloc .dead k):=by
 obtain⟨t,n⟩:=h
 show ValOk P w0 ρ _ w s (Heap.allocT t n .dead k)
 unfold Heap.allocT
 cases e:t.get n with
 | some x=>exact trivial
 | none=>
  have hb:(Heap.mk t n).get n=none:=e
  have hn:=hs.none_of_get hb
  have h1:Sim w0 (ρ.add n L) ((Heap.mk t n).put n .dead) w:=hs.name hb hL
  have h2:Sim w0 (ρ.add n L) (Heap.mk (t.set .dead n) (bV n)) w:=⟨h1.os,h1.out,h1.size,h1.old,h1.sub,h1.obj,h1.inj⟩
  have h3:Kept ρ (Heap.mk t n) (ρ.add n L) (Heap.mk (t.set .dead n) (bV n)):=fun k x g e=>eZ (h:=.mk t n) (o:=.dead) (L:=L) hb k x g e
  refine ValOk.from (Rho.sub_add hn) h3 (hk n _ (Rho.sub_add hn) h3 (fun x o g=>?_) h2 (Rho.add_same _ _ _))
  have hne:n≠x:=fun e'=>by subst e';rw [hb] at g;cases g
  have:=Heap.get_put_other (Heap.mk t n) n x .dead hne
  exact this.trans g
theorem qY{B:Nat}{s:Sem Value}:∀ {es:List (AV × AV)} {ρ:Rho} {h:Heap} {k:List (AV × AV × Key)→Heap→Res} (_:Sim w0 ρ h w) (_:B < w.heap.size) {es':List (AV × AV × Nat)} (_:(es'.map fun e=>(e.1,e.2.1))=es),
  (∀ ρ' l h',Sub ρ ρ'→(∀ x o,h.get x=some o→h'.get x=some o)→Sim w0 ρ' h' w→KsRel ρ' l es'→ValOk P w0 ρ' h' w s (k l h'))→ValOk P w0 ρ h w s (nQ es h k)
 | [],ρ,h,k,hs,hB,es',hm,hk=>by
  have:es'=[]:=by simpa using hm
  subst this
  exact hk ρ [] h (Sub.refl _) (fun _ _ g=>g) hs .nil
 | e::r,ρ,h,k,hs,hB,es',hm,hk=>by
  cases es' with
  | nil=>cases hm
  | cons x rs=>
   rw [List.map_cons] at hm
   injection hm with h1 h2
   obtain⟨xk,xv,xc⟩:=x
   subst h1
   refine Cn (L:=⟨B,xc,0⟩) hs hB fun b h' hsub _ hget hs' hb=>?_
   refine qY hs' hB h2 fun ρ' l h'' hsub' hget' hs'' hks=>?_
   exact hk ρ' _ h'' (hsub.trans hsub') (fun x o g=>hget' x o (hget x o g)) hs'' (.cons xk xv b ⟨B,xc,0⟩ l rs (hsub' _ _ hb) hks)
theorem KsRel.ages:∀ {l:List (AV × AV × Key)} {es:List (AV × AV × Nat)},KsRel ρ l es→∀ b ∈ keysS l,∃ L e,ρ b=some L∧e ∈ es∧e.2.2=L.base
 | _,_,.nil,_,hb=>by cases hb
 | _,_,.cons k v b L r R hL hr,x,hx=>by
  have hx:x ∈ b::keysS r:=hx
  cases hx with
  | head=>exact⟨L,_,hL,List.mem_cons_self,rfl⟩
  | tail _ hx=>
   obtain⟨L',e,h1,h2,h3⟩:=hr.ages x hx
   exact⟨L',e,h1,List.mem_cons_of_mem _ h2,h3⟩
theorem ERel.born:∀ {es:List (AV × AV × Nat)} {E:List MapEntry},ERel ρ es E→∀ e ∈ es,∃ x ∈ E,x.born=e.2.2
 | _,_,.nil,_,he=>by cases he
 | _,_,.cons k v K V c r R _ _ hr,e,he=>by
  cases he with
  | head=>exact⟨_,List.mem_cons_self,rfl⟩
  | tail _ he=>obtain⟨x,h1,h2⟩:=hr.born e he;exact⟨x,List.mem_cons_of_mem _ h1,h2⟩
theorem DL(hs:Sim w0 ρ h w){m:Key}{L:Loc}(hm:ρ m=some L){es:List (AV × AV)}(hg:h.get m=some (.lmap es)){s:Sem Value}
  (hrun:∀ E clock,w.heap[L.B]?=some (.map E clock)→s.run P w=.ok (.pointer (some ⟨w.heap.size,0,none⟩)) (w.alloc (.mapIter (some L.B) clock #[] clock))):ValOk P w0 ρ h w s (nQ es h (fun l h=>BK m l h)):=by
 obtain⟨o,ho,hlt,hr⟩:=hs.obj m L hm
 rw [hg] at ho;cases ho
 obtain⟨hN,E,clock,hO,⟨es0,hp,hE⟩,hst⟩:=hr
 obtain⟨es',he,hpe⟩:=vi hp
 refine qY (B:=L.B) hs hlt he fun ρ0 l h0 hsub0 hget0 hs0 hks0=>?_
 show ValOk P w0 ρ0 h0 w s (h0.alloc .dead (fun c h=>(h.put m (.smap l c)).alloc (.smiter m (keysS l) [] c) (fun b h=>.val (.ptr b 0) h)))
 refine Cn (L:=⟨L.B,clock,0⟩) hs0 hlt fun ck h' hsub1 _ hget1 hs' hck=>?_
 have hsub:=hsub0.trans hsub1
 have hks:=hks0.mono hsub1
 have hm':=hsub _ _ hm
 have hg':=hget1 _ _ (hget0 _ _ hg)
 have hless:Sim w0 (ρ0.add ck ⟨L.B,clock,0⟩) (h'.put m (.smap l ck)) w:=by
  refine hs'.less hg' rfl fun L' e' ho'=>?_
  rw [hm'] at e';cases e'
  exact⟨hN,E,⟨L.B,clock,0⟩,hck,hO,⟨es0,es',hks,hpe,hE.mono hsub⟩,hst⟩
 have hv:=jV (P:=P) (s:=s) hless (o:=.smiter m (keysS l) [] ck) (O:=.mapIter (some L.B) clock #[] clock) (v:=fun b=>.ptr b 0) (V:=.pointer (some ⟨w.heap.size,0,none⟩)) (tot:=0) (fun ρ'' hs2=>⟨hless.new,rfl,L,clock,⟨L.B,clock,0⟩,[],hs2 _ _ hm',hs2 _ _ hck,rfl,.nil,fun b hb=>by
  obtain⟨Lb,e,h1,h2,h3⟩:=hks.ages b hb
  obtain⟨x,h4,h5⟩:=hE.born e (hpe.mem_iff.2 h2)
  have:=hst.1 x h4
  exact⟨Lb,hs2 _ _ h1,by omega,by show Lb.base < clock;omega⟩⟩) (hrun E clock hO) (fun b=>kB)
 exact ValOk.from (Sub.refl _) (aK hm') hv
theorem oj(hs:Sim w0 ρ h w){t:Nat}{v:AV}{V:Value}(hv:Rel ρ v V)(ht:(∀ l c,v=.str l c→P.underlying t=some .string)∧(v=.nilMap∨(∃ b,v=.map b)→∃ k e,P.underlying t=some (.map k e))):ValOk P w0 ρ h w (Instr.range t V) (xA v h):=by
 cases hv with
 | str l c hc=>
  refine jV hs (o:=.siter l c 0) (O:=.stringIter (strOf l c) 0) (V:=.pointer (some ⟨w.heap.size,0,none⟩)) (tot:=0) (fun _ _=>⟨hs.new,rfl,hc,rfl⟩) ?_ (fun b=>kB)
  simp [Instr.range,a8 (ht.1 l c rfl)]
 | nilMap=>
  obtain⟨k,e,hu⟩:=ht.2 (.inl rfl)
  refine jV hs (o:=.miter none 0 [] 0) (O:=.mapIter none 0 #[] 0) (V:=.pointer (some ⟨w.heap.size,0,none⟩)) (tot:=0) (fun _ _=>⟨hs.new,rfl,none,rfl,rfl⟩) ?_ (fun b=>kB)
  simp [Instr.range,a8 hu]
 | map m L hm=>
  obtain⟨k,e,hu⟩:=ht.2 (.inr ⟨m,rfl⟩)
  show ValOk P w0 ρ h w _ (match h.get m with
   | some (.map _ clock)=>h.alloc (.miter (some m) clock [] clock) (fun b h=>.val (.ptr b 0) h)
   | some (.lmap es)=>nQ es h (fun l h=>BK m l h)
   | _=>.bad "range")
  obtain⟨o,ho,hlt,hr⟩:=hs.obj m L hm
  rw [ho]
  cases o with
  | map es clock=>
   obtain⟨hN,E,hO,hE⟩:=hr
   refine jV hs (o:=.miter (some m) clock [] clock) (O:=.mapIter (some L.B) clock #[] clock) (V:=.pointer (some ⟨w.heap.size,0,none⟩)) (tot:=0) (fun ρ' hsub=>⟨hs.new,rfl,some L.B,rfl,L,hsub _ _ hm,rfl⟩) ?_ (fun b=>kB)
   simp [Instr.range,a8 hu,ai hO (by simp)]
  | lmap es=>exact DL hs hm ho fun E clock hO=>by simp [Instr.range,a8 hu,ai hO (by simp)]
  | _=>exact trivial
 | _=>exact trivial
theorem DN{v:AV}{V:Value}(hv:Rel ρ v V):NextOk P w0 ρ h w (do pure (.value (←Instr.panic V))) (Gk v h):=by
 cases hv with
 | iface t v V hv=>exact⟨rfl,.iface t V,.iface t v V hv,by simp [Instr.panic]⟩
 | _=>exact trivial
end
end Go.VM
namespace Go.VM
section
variable {P:Program} {w0:Base} {ρ:Rho} {h:Heap} {w:World}
theorem lH{t:Nat}(ht:jC P t=true):P.underlying t=some .string:=by
 unfold jC at ht
 cases hu:P.underlying t with
 | none=>simp [hu] at ht
 | some d=>cases d<;>simp [hu] at ht;rfl
theorem qZ{t:Nat}(ht:xF P t=true):∃ k e,P.underlying t=some (.map k e):=by
 unfold xF at ht
 cases hu:P.underlying t with
 | none=>simp [hu] at ht
 | some d=>cases d<;>simp [hu] at ht;exact⟨_,_,rfl⟩
theorem r8(hs:Sim w0 ρ h w){t:Nat}{v i:AV}{V I:Value}(hv:Rel ρ v V)(hi:Rel ρ i I):ValOk P w0 ρ h w (Instr.index t V I) (g7 P t v i h):=by
 unfold g7
 split
 ·refine aa (fun hc=>?_) (fun _=>trivial)
  exact ve hs hv hi (fun _ _ _=>lH hc)
 ·rename_i hne
  exact ve hs hv hi (fun l c e=>absurd e (hne l c))
theorem AC(hs:Sim w0 ρ h w){t:Nat}{v:AV}{V:Value}(hv:Rel ρ v V):ValOk P w0 ρ h w (Instr.range t V) (xG P t v h):=by
 unfold xG
 split
 ·refine aa (fun hc=>?_) (fun _=>trivial)
  exact oj hs hv ⟨fun _ _ _=>lH hc,fun e=>by rcases e with e | ⟨_,e⟩<;>cases e⟩
 ·refine aa (fun hc=>?_) (fun _=>trivial)
  exact oj hs hv ⟨fun _ _ e=>(by cases e),fun _=>qZ hc⟩
 ·refine aa (fun hc=>?_) (fun _=>trivial)
  exact oj hs hv ⟨fun _ _ e=>(by cases e),fun _=>qZ hc⟩
 ·exact trivial
theorem yh(hs:Sim w0 ρ h w){b:Key}{L:Loc}(hb:ρ b=some L)(hl:qk h b=true):∃ o C e,h.get b=some o∧o.live=true∧w.heap[L.B]?=some (.cells C e (0,0))∧L.base=0:=by
 obtain⟨o,ho,hlt,hr⟩:=hs.obj b L hb
 unfold qk at hl
 rw [ho] at hl
 cases o with
 | cells e cs opn fz=>
  obtain⟨_,C,q,hO,_,_,_,h1,h2⟩:=hr
  cases opn with
  | true=>simp at hl
  | false=>
   have hf:fz=0:=by simpa using hl
   have:=h2 hf rfl
   subst this
   exact⟨_,C,e,ho,rfl,hO,(h1 rfl).1⟩
 | _=>simp at hl
theorem EQ(hs:Sim w0 ρ h w){a b:Key}{o q:Nat}{La Lb:Loc}(ha:ρ a=some La)(hb:ρ b=some Lb){r:Bool}(he:D5 h a o b q=some r):
  (sameAddr ⟨La.B,La.base+o,none⟩ ⟨Lb.B,Lb.base+q,none⟩).run P w=.ok r w:=by
 unfold D5 at he
 cases hk:Key.same a b with
 | true=>
  rw [hk] at he
  have:=(Key.same_iff a b).1 hk
  subst this
  rw [ha] at hb;cases hb
  have hr:Nat.beq o q=r:=by simpa using he
  by_cases hoq:o=q
  ·subst hoq
   have:r=true:=by rw [←hr];simp
   rw [this];exact run_sameAddr_same w _
  ·have:r=false:=by rw [←hr,Bool.eq_false_iff];intro e;exact hoq (Nat.eq_of_beq_eq_true e)
   rw [this]
   have hne:(⟨La.B,La.base+o,none⟩:Addr)≠⟨La.B,La.base+q,none⟩:=by intro e;injection e with _ e2 _;omega
   simp [sameAddr]
 | false=>
  rw [hk] at he
  cases hla:qk h a with
  | false=>rw [hla] at he;cases he
  | true=>
   cases hlb:qk h b with
   | false=>rw [hla,hlb] at he;cases he
   | true=>
    rw [hla,hlb] at he
    have hr:false=r:=by simpa using he
    subst hr
    obtain⟨oa,Ca,ea,ga,la,hOa,_⟩:=yh hs ha hla
    obtain⟨ob,Cb,eb,gb,lb,hOb,_⟩:=yh hs hb hlb
    have hne:La.B≠Lb.B:=by
     intro e
     have:=hs.inj a b La Lb oa ob ha hb ga gb la lb e
     rw [(Key.same_iff a b).2 this] at hk;cases hk
    exact run_sameAddr_other w (by intro e;exact hne (congrArg Addr.block e)) hOa hOb
theorem ie{rc:Nat→AV→AV→Option Bool}{d:Nat}{xs ys:List AV}{Xs Ys:List Value}(hx:RelL ρ xs Xs)(hy:RelL ρ ys Ys)
  (hrc:∀ t x y X Y b,Rel ρ x X→Rel ρ y Y→rc t x y=some b→(Op.equalIn d t X Y).run P w=.ok b w):
  ∀ (fs:List Field) (b:Bool),eV P rc xs ys fs=some b→(Op.eqFields d Xs.toArray Ys.toArray fs).run P w=.ok b w
 | [],b,e=>by simp [eV] at e;subst e;simp [Op.eqFields]
 | f::fs,b,e=>by
  unfold eV at e
  unfold Op.eqFields
  cases hn:(f.name == "_") with
  | true=>
   rw [hn] at e
   have:f.name= "_":=by simpa using hn
   rw [if_neg (by simp [this])]
   exact ie hx hy hrc fs b e
  | false=>
   rw [hn] at e
   have hne:f.name≠ "_":=by simpa using hn
   rw [if_pos hne]
   simp only [cond_false] at e
   cases h1:jz P f.type f.offset xs with
   | none=>simp [h1] at e
   | some a=>
    cases h2:jz P f.type f.offset ys with
    | none=>simp [h1,h2] at e
    | some c=>
     obtain⟨A,ra,r1⟩:=qB (P:=P) (w:=w) hx h1
     obtain⟨C,rb,r2⟩:=qB (P:=P) (w:=w) hy h2
     simp only [h1,h2] at e
     simp only [Sem.run_bind,r1,r2,Result.andThen_ok]
     cases h3:rc f.type a c with
     | none=>simp [h3] at e
     | some r=>
      rw [hrc _ _ _ _ _ r ra rb h3]
      simp only [Result.andThen_ok]
      cases r with
      | true=>
       simp only [h3] at e
       simpa using ie hx hy hrc fs b e
      | false=>
       simp only [h3] at e
       have:false=b:=by simpa using e
       subst this
       simp
set_option maxHeartbeats 2000000 in
theorem ER(_hP:TypesOk P)(hs:Sim w0 ρ h w):∀ (d:Nat) (t:Nat) (x y:AV) (X Y:Value) (b:Bool),Rel ρ x X→Rel ρ y Y→eqA P h d t x y=some b→∀ D,d≤D→(Op.equalIn D t X Y).run P w=.ok b w:=by
 intro d
 induction d with
 | zero=>intro t x y X Y b _ _ e;simp [eqA] at e
 | succ d ih=>
  intro t x y X Y b hx hy e D hD
  obtain⟨D,rfl⟩:∃ D',D=D'+1:=⟨D - 1,by omega⟩
  unfold eqA at e
  cases hu:P.underlying t with
  | none=>simp [hu] at e
  | some ds=>
   rw [hu] at e
   cases ds with
   | bool=>
    cases hx<;>cases hy<;>simp at e
    subst e;simp [Op.equalIn,a8 hu]
   | int k=>
    cases hx<;>cases hy<;>simp at e
    rename_i k1 a k2 c
    cases hk:Nat.beq (aj k1) (aj k2) with
    | false=>rw [hk] at e;cases e
    | true=>
     have:=ap hk
     subst this
     rw [hk] at e
     have e':bO a c=b:=by simpa using e
     rw [←e',qT]
     simp [Op.equalIn,a8 hu]
   | float k=>
    cases hx<;>cases hy<;>simp at e
    rename_i k1 a k2 c
    cases k1<;>cases k2<;>simp at e
    subst e;simp [Op.equalIn,a8 hu]
   | string=>
    cases hx<;>cases hy<;>simp at e
    rename_i l1 c1 h1 l2 c2 h2
    rw [run_equalIn_string w D t _ _ hu,bw,bw,←lF h1 h2,←e]
    cases Nat.beq l1 l2<;>rfl
   | pointer el=>
    cases hx<;>cases hy<;>simp at e
    ·subst e;simp [Op.equalIn,a8 hu]
    ·subst e;simp [Op.equalIn,a8 hu]
    ·subst e;simp [Op.equalIn,a8 hu]
    ·rename_i k1 o1 L1 hb1 k2 o2 L2 hb2
     obtain⟨i,hi⟩:∃ i,P.info? el=some i:=by
      cases hi:P.info? el with
      | none=>simp [aU,hi] at e
      | some i=>exact⟨i,rfl⟩
     rw [bj hi] at e
     cases h0':Nat.beq i.size 0 with
     | true=>rw [h0'] at e;cases e
     | false=>
      rw [h0'] at e
      have h0:i.size≠0:=by intro e0;rw [e0] at h0';cases h0'
      simp only [cond_false] at e
      simp [Op.equalIn,a8 hu,ay hi,h0,EQ (P:=P) hs hb1 hb2 e]
   | interface ms=>
    cases hx<;>cases hy<;>simp at e
    ·rename_i ta a A ha tb c C hc
     cases htt':Nat.beq ta tb with
     | true=>
      have htt:=Nat.eq_of_beq_eq_true htt'
      subst htt
      rw [htt'] at e
      simp only [cond_true] at e
      cases hi:P.info? ta with
      | none=>simp [hi] at e
      | some i=>
       simp [hi] at e
       by_cases hcmp:i.comparable=true
       ·simp [hcmp] at e
        simp [Op.equalIn,a8 hu,eK hi,hcmp,ih ta a c A C b ha hc e D (by omega)]
       ·simp [hcmp] at e
     | false=>
      have htt:ta≠tb:=by intro e0;subst e0;simp at htt'
      rw [htt'] at e
      have:b=false:=by simpa using e.symm
      subst this
      simp [Op.equalIn,a8 hu,htt]
    ·subst e;simp [Op.equalIn,a8 hu]
    ·subst e;simp [Op.equalIn,a8 hu]
    ·subst e;simp [Op.equalIn,a8 hu]
   | slice el=>
    cases hx with
    | nilSlice=>
     cases hy with
     | nilSlice=>first | (cases e;done) | (simp at e;subst e;simp [Op.equalIn,a8 hu])
     | emptyS a c=>first | (cases e;done) | (simp at e;subst e;simp [Op.equalIn,a8 hu])
     | sliceIs b off len c L hb=>first | (cases e;done) | (simp at e;subst e;simp [Op.equalIn,a8 hu])
     | sliceMore b off len c sz L hb h1 h2=>first | (cases e;done) | (simp at e;subst e;simp [Op.equalIn,a8 hu])
     | _=>cases e
    | emptyS a c=>
     cases hy with
     | nilSlice=>first | (cases e;done) | (simp at e;subst e;simp [Op.equalIn,a8 hu])
     | emptyS a c=>first | (cases e;done) | (simp at e;subst e;simp [Op.equalIn,a8 hu])
     | sliceIs b off len c L hb=>first | (cases e;done) | (simp at e;subst e;simp [Op.equalIn,a8 hu])
     | sliceMore b off len c sz L hb h1 h2=>first | (cases e;done) | (simp at e;subst e;simp [Op.equalIn,a8 hu])
     | _=>cases e
    | sliceIs b off len c L hb=>
     cases hy with
     | nilSlice=>first | (cases e;done) | (simp at e;subst e;simp [Op.equalIn,a8 hu])
     | emptyS a c=>first | (cases e;done) | (simp at e;subst e;simp [Op.equalIn,a8 hu])
     | sliceIs b off len c L hb=>first | (cases e;done) | (simp at e;subst e;simp [Op.equalIn,a8 hu])
     | sliceMore b off len c sz L hb h1 h2=>first | (cases e;done) | (simp at e;subst e;simp [Op.equalIn,a8 hu])
     | _=>cases e
    | sliceMore b off len c sz L hb h1 h2=>
     cases hy with
     | nilSlice=>first | (cases e;done) | (simp at e;subst e;simp [Op.equalIn,a8 hu])
     | emptyS a c=>first | (cases e;done) | (simp at e;subst e;simp [Op.equalIn,a8 hu])
     | sliceIs b off len c L hb=>first | (cases e;done) | (simp at e;subst e;simp [Op.equalIn,a8 hu])
     | sliceMore b off len c sz L hb h1 h2=>first | (cases e;done) | (simp at e;subst e;simp [Op.equalIn,a8 hu])
     | _=>cases e
    | _=>cases e
   | map kt et=>
    cases hx with
    | nilMap=>
     cases hy with
     | nilMap=>first | (cases e;done) | (simp at e;subst e;simp [Op.equalIn,a8 hu])
     | map b L hb=>first | (cases e;done) | (simp at e;subst e;simp [Op.equalIn,a8 hu])
     | _=>cases e
    | map b L hb=>
     cases hy with
     | nilMap=>first | (cases e;done) | (simp at e;subst e;simp [Op.equalIn,a8 hu])
     | map b L hb=>first | (cases e;done) | (simp at e;subst e;simp [Op.equalIn,a8 hu])
     | _=>cases e
    | _=>cases e
   | func a b c=>
    cases hx with
    | nilFunc=>
     cases hy with
     | nilFunc=>first | (cases e;done) | (simp at e;subst e;simp [Op.equalIn,a8 hu])
     | func f a b A B ha hb=>first | (cases e;done) | (simp at e;subst e;simp [Op.equalIn,a8 hu])
     | yield l L hl=>first | (cases e;done) | (simp at e;subst e;simp [Op.equalIn,a8 hu])
     | _=>cases e
    | func f a b A B ha hb=>
     cases hy with
     | nilFunc=>first | (cases e;done) | (simp at e;subst e;simp [Op.equalIn,a8 hu])
     | func f a b A B ha hb=>first | (cases e;done) | (simp at e;subst e;simp [Op.equalIn,a8 hu])
     | yield l L hl=>first | (cases e;done) | (simp at e;subst e;simp [Op.equalIn,a8 hu])
     | _=>cases e
    | yield l L hl=>
     cases hy with
     | nilFunc=>first | (cases e;done) | (simp at e;subst e;simp [Op.equalIn,a8 hu])
     | func f a b A B ha hb=>first | (cases e;done) | (simp at e;subst e;simp [Op.equalIn,a8 hu])
     | yield l L hl=>first | (cases e;done) | (simp at e;subst e;simp [Op.equalIn,a8 hu])
     | _=>cases e
    | _=>cases e
   | struct fs=>
    cases hx<;>cases hy<;>simp at e
    rename_i a A ha c C hc
    by_cases hst:P.stoodInHeld t=true
    ·simp [hst] at e
    ·simp [hst] at e
     have hfs:P.fieldsOf t=fs:=by simp [Program.fieldsOf,hu]
     have:=run_equalIn_struct w D t A.toArray C.toArray (by rw [hfs];exact hu) (by simpa using hst)
     rw [hfs] at this
     rw [this]
     exact ie ha hc (fun t x y X Y b hx hy he=>ih t x y X Y b hx hy he D (by omega)) fs.toList b e
   | _=>simp at e
end
end Go.VM
namespace Go.VM
section
variable {P:Program} {w0:Base} {ρ:Rho} {h:Heap} {w:World}
theorem aq{op:BinOp}{t:TypeId}{x y:Operand}{A B:Value}(h1:A≠.nilIface)(h2:∀ a,A≠.agg a):(eqGuard op t x y A B).run P w=.ok () w:=by
 cases A<;>first | exact absurd rfl h1 | exact absurd rfl (h2 _) | (cases op<;>rfl)
theorem ld{t:TypeId}(hg:dL P false t .nilIface=true):(Op.eqGuardIn Op.maxDepth t .nilIface .nilIface).run P w=.ok false w:=by
 unfold dL at hg
 cases hu:P.underlying t with
 | none=>simp [hu] at hg
 | some d=>
  cases d with
  | interface ms=>
   simp only [hu] at hg
   have hm:ms.isEmpty=true:=hg
   have key:∀ d,(Op.eqGuardIn (d+1) t .nilIface .nilIface).run P w=.ok false w:=fun d=>by
    simp only [Op.eqGuardIn,Sem.run_bind,a8 hu,Result.andThen_ok,hm,Bool.not_true,Sem.run_pure]
   exact key 9999
  | _=>simp [hu] at hg
theorem yi{op:BinOp}{t:TypeId}{x y:Operand}{B:Value}(hg:dL P (or (isC x) (isC y)) t .nilIface=true):(eqGuard op t x y .nilIface B).run P w=.ok () w:=by
 cases B with
 | nilIface=>
  cases op with
  | eql=>cases x<;>cases y<;>first | rfl | simp [eqGuard,ld (w:=w) hg]
  | neq=>cases x<;>cases y<;>first | rfl | simp [eqGuard,ld (w:=w) hg]
  | _=>rfl
 | _=>cases op<;>rfl
theorem yj{op:BinOp}{t:TypeId}{x y:Operand}{c:List AV}{C:Array Value}{B:Value}{cst:Bool}(hg:dL P cst t (.agg c)=true):(eqGuard op t x y (.agg C) B).run P w=.ok () w:=by
 have hm:P.eqGuardType P.depth t=false:=by simpa [dL] using hg
 cases B with
 | agg D=>exact run_eqGuard_agg w op t x y C D hm
 | _=>cases op<;>rfl
theorem AD{op:BinOp}{t:TypeId}{x y:Operand}{a:AV}{A B:Value}(hg:dL P (or (isC x) (isC y)) t a=true)(ha:Rel ρ a A)(hj:a≠.junk):(eqGuard op t x y A B).run P w=.ok () w:=by
 cases ha with
 | junk=>exact absurd rfl hj
 | nilIface=>exact yi hg
 | agg c C hc=>exact yj hg
 | tab b ds vs L V hb hp h=>rcases jX hp h with ⟨_,_,_,_,rfl⟩ | ⟨_,_,_,rfl⟩ | ⟨_,_,rfl⟩<;>exact aq (by simp) (by simp)
 | _=>exact aq (by simp) (by simp)
theorem ig{d t:Nat}{x y:AV}{b:Bool}(e:eqA P h d t x y=some b):x≠.junk:=by
 intro hj
 subst hj
 cases d with
 | zero=>simp [eqA] at e
 | succ d=>
  unfold eqA at e
  cases hu:P.underlying t with
  | none=>simp [hu] at e
  | some ds=>rw [hu] at e;cases ds<;>cases e
theorem bz{s:Sem Value}{g:Sem Unit}{r:Res}(hg:g.run P w=.ok () w)(hr:ValOk P w0 ρ h w s r):ValOk P w0 ρ h w (do g;s) r:=by
 cases r with
 | val v h'=>
  obtain⟨ρ',V,w',a,b,c,d,e⟩:=hr
  exact⟨ρ',V,w',a,b,c,d,by simp [hg,e]⟩
 | bad=>exact trivial
 | alts l=>
  obtain⟨p,hp,ρ',V,w',a,b,c,d,e⟩:=hr
  exact⟨p,hp,ρ',V,w',a,b,c,d,by simp [hg,e]⟩
 | _=>exact hr.elim
theorem iT:∀ a b:List UInt8,Op.bytesLess b a=!(Op.bytesLess a b || (a == b))
 | [],[]=>rfl
 | [],_::_=>rfl
 | _::_,[]=>rfl
 | x::a,y::b=>by
  simp only [Op.bytesLess,iT a b]
  by_cases h1:x < y
  ·have h2:¬ y < x:=by exact UInt8.lt_asymm h1
   have h3:¬ x=y:=by intro e;subst e;exact UInt8.lt_irrefl _ h1
   have h4:¬ y=x:=fun e=>h3 e.symm
   simp [h1,h2,h4]
  ·by_cases h2:y < x
   ·have h3:¬ x=y:=by intro e;subst e;exact h1 h2
    simp [h1,h2,h3]
   ·have h3:x=y:=by
     have a1:¬ x.toNat < y.toNat:=(fun e=>h1 (UInt8.lt_iff_toNat_lt.2 e))
     have a2:¬ y.toNat < x.toNat:=(fun e=>h2 (UInt8.lt_iff_toNat_lt.2 e))
     exact UInt8.toNat_inj.1 (by omega)
    subst h3
    simp
theorem DP(hs:Sim w0 ρ h w){op:BinOp}{t:Nat}{la a lb b:Nat}(ha:a < 256 ^ la)(hb:b < 256 ^ lb):ValOk P w0 ρ h w (binOp op t (.string (strOf la a)) (.string (strOf lb b))) (binStr op la a lb b h):=by
 have e0:cond (Nat.beq la lb) (Nat.beq a b) false=((strOf la a).toList == (strOf lb b).toList):=by rw [bw,bw];exact lF ha hb
 have l1:ci (la+lb+1) la a lb b=Op.bytesLess (strOf la a).toList (strOf lb b).toList:=by rw [bw,bw];exact ib _ _ _ _ _ (by omega)
 have l2:ci (la+lb+1) lb b la a=Op.bytesLess (strOf lb b).toList (strOf la a).toList:=by rw [bw,bw];exact ib _ _ _ _ _ (by omega)
 have tot:Op.bytesLess (strOf lb b).toList (strOf la a).toList=!(Op.bytesLess (strOf la a).toList (strOf lb b).toList || ((strOf la a).toList == (strOf lb b).toList)):=iT _ _
 cases op with
 | add=>
  unfold binStr strV
  rw [af,af]
  refine aa (fun hc=>?_) (fun _=>trivial)
  have hle:=Nat.le_of_ble_eq_true hc
  rw [Au]
  refine au hs (.str (la+lb) _ (As ha hb)) ?_
  have hn:¬ (((la+lb:Nat):Int) > IntKind.i64.max):=by show ¬ ((la+lb:Nat):Int) > 9223372036854775807;omega
  simp only [binOp,Op.stringOp,aI,if_neg hn,Sem.run_pure,wE ha]
 | eql=>dsimp only [binStr];rw [bY];refine au hs (.bool _) ?_;(rw [e0];rfl)
 | neq=>dsimp only [binStr];rw [bY];refine au hs (.bool _) ?_;(rw [e0];rfl)
 | lss=>dsimp only [binStr];rw [bY];refine au hs (.bool _) ?_;(rw [l1];rfl)
 | gtr=>dsimp only [binStr];rw [bY];refine au hs (.bool _) ?_;(rw [l2,tot];first | rfl | (rw [Bool.not_not];rfl))
 | leq=>dsimp only [binStr];rw [bY];refine au hs (.bool _) ?_;(rw [l2,tot];first | rfl | (rw [Bool.not_not];rfl))
 | geq=>dsimp only [binStr];rw [bY];refine au hs (.bool _) ?_;(rw [l1];rfl)
 | _=>exact trivial
theorem mw(hs:Sim w0 ρ h w){op:BinOp}{t l:Nat}{a b:ByteArray}(hl:a.size+b.size=l):ValOk P w0 ρ h w (binOp op t (.string a) (.string b)) (tV op l h):=by
 cases op with
 | add=>
  unfold tV
  rw [af]
  refine aa (fun hc=>?_) (fun _=>trivial)
  have hle:=Nat.le_of_ble_eq_true hc
  refine au hs (.ustr l (a++b) (by rw [ByteArray.size_append];exact hl)) ?_
  have hn:¬ (((a.size+b.size:Nat):Int) > IntKind.i64.max):=by show ¬ ((a.size+b.size:Nat):Int) > 9223372036854775807;omega
  simp only [binOp,Op.stringOp,if_neg hn,Sem.run_pure]
 | _=>exact trivial
theorem yk(hP:TypesOk P)(hs:Sim w0 ρ h w){op:BinOp}{t:Nat}{x y:Operand}{a b:AV}{A B:Value}(ha:Rel ρ a A)(hb:Rel ρ b B)
  (hne:(∀ k n,a≠.int k n)∧(∀ l c,a≠.str l c)∧(∀ k n,a≠.float k n)) (hnr:∀ k m c j,a≠.red k m c j) (hns:∀ k m c s,a≠.reds k m c s) (hnt:∀ b ds vs,a≠.tab b ds vs) (hnu:∀ l,a≠.ustr l) (hno:∀ k b n,a≠.ofs k b n) (hnn:a≠.nan) (hng:∀ lo hi,a≠.rng lo hi) (hnb:a≠.byte):
  ValOk P w0 ρ h w (do eqGuard op t x y A B;binOp op t A B) (tQ P op t (or (isC x) (isC y)) a b h):=by
 have heq:∀ r,eqA P h 50 t a b=some r→dL P (or (isC x) (isC y)) t a=true→(eqGuard op t x y A B).run P w=.ok () w∧(Op.equal t A B).run P w=.ok r w:=by
  intro r e hg
  exact⟨AD hg ha (ig e),ER hP hs 50 t a b A B r ha hb e Op.maxDepth (by decide)⟩
 have hnj:a=.junk∨((∀ k n,A≠.int k n)∧(∀ s,A≠.string s)∧(∀ k n,A≠.float k n)∧(∀ k n m,A≠.complex k n m)):=by
  cases ha with
  | junk=>exact .inl rfl
  | int k n=>exact absurd rfl (hne.1 k n)
  | str l c _=>exact absurd rfl (hne.2.1 l c)
  | float k n=>exact absurd rfl (hne.2.2 k n)
  | red k m c j n _=>exact absurd rfl (hnr k m c j)
  | reds k m c s _ _ _ _=>exact absurd rfl (hns k m c s)
  | tab b ds vs _ _ _ _ _=>exact absurd rfl (hnt b ds vs)
  | ustr l _ _=>exact absurd rfl (hnu l)
  | ofs k b n _ _ _ _=>exact absurd rfl (hno k b n)
  | nan _ _=>exact absurd rfl hnn
  | rng lo hi=>exact absurd rfl (hng lo hi)
  | byte _=>exact absurd rfl hnb
  | _=>exact .inr (by simp)
 have bin:∀ r,a≠.junk→(Op.equal t A B).run P w=.ok r w→(binOp .eql t A B).run P w=.ok (.bool r) w∧(binOp .neq t A B).run P w=.ok (.bool (!r)) w:=by
  intro r hj e
  obtain⟨n1,n2,n3,n4⟩:=hnj.resolve_left hj
  cases A<;>first | exact absurd rfl (n1 _ _) | exact absurd rfl (n2 _) | exact absurd rfl (n3 _ _) | exact absurd rfl (n4 _ _ _) | (simp [binOp,e])
 have other:ValOk P w0 ρ h w (do eqGuard op t x y A B;binOp op t A B) (match eh a,eh b with
  | some u,some v=>scalV (aS P (binOp op t u v)) h "binOp"
  | _,_=>.bad "binOp"):=by
  cases hu:eh a with
  | none=>exact trivial
  | some u=>
   cases hv:eh b with
   | none=>exact trivial
   | some v=>
    rw [lG ha hu,lG hb hv]
    refine bz (aq ?_ ?_) (gA hs)
    ·intro e;subst e;cases ha<;>simp [eh] at hu
    ·intro z e;subst e;cases ha<;>simp [eh] at hu
 cases op with
 | eql=>
  show ValOk P w0 ρ h w _ (cond (dL P (or (isC x) (isC y)) t a) (okb (eqA P h 50 t a b) h) (.bad "=="))
  refine aa (fun hg=>?_) (fun _=>trivial)
  cases e:eqA P h 50 t a b with
  | none=>exact trivial
  | some r=>
   obtain⟨g,q⟩:=heq r e hg
   show ValOk P w0 ρ h w _ (boolV r h)
   rw [bY]
   exact bz g (au hs (.bool r) (bin r (ig e) q).1)
 | neq=>
  show ValOk P w0 ρ h w _ (cond (dL P (or (isC x) (isC y)) t a) (Jn (eqA P h 50 t a b) h) (.bad "!="))
  refine aa (fun hg=>?_) (fun _=>trivial)
  cases e:eqA P h 50 t a b with
  | none=>exact trivial
  | some r=>
   obtain⟨g,q⟩:=heq r e hg
   show ValOk P w0 ρ h w _ (boolV (not r) h)
   rw [bY]
   exact bz g (au hs (.bool _) (bin r (ig e) q).2)
 | _=>exact other
theorem jW(p:Nat→Bool)(k:IntKind)(h:Heap){j:Nat}(hp:p j=true):∀ {n:Nat},j < n→((.int k (Int.ofNat j),h):AV × Heap) ∈ zH p k h n
 | 0,hj=>absurd hj (Nat.not_lt_zero _)
 | n+1,hj=>by
  unfold zH
  rcases Nat.lt_or_eq_of_le (Nat.le_of_lt_succ hj) with h' | h'
  ·cases p n with
   | true=>exact List.mem_cons_of_mem _ (jW p k h hp h')
   | false=>exact jW p k h hp h'
  ·subst h';rw [hp];exact List.mem_cons_self ..
theorem ES(hs:Sim w0 ρ h w){p:Nat→Bool}{k:IntKind}{n j:Nat}{s:Sem Value}(hp:p j=true)(hj:j < n)(e:s.run P w=.ok (.int k (Int.ofNat j)) w):ValOk P w0 ρ h w s (tT p k n h):=by
 unfold tT
 refine aa (fun _=>?_) (fun _=>trivial)
 exact⟨_,jW p k h hp hj,au hs (.int _ _) e⟩
theorem Co(b:Nat)(hb:b < 9223372036854775808)(x:Int):bits .and .i64 x (Int.ofNat b)=Int.ofNat (BitVec.ofInt 64 x &&& BitVec.ofInt 64 (Int.ofNat b)).toNat∧(BitVec.ofInt 64 x &&& BitVec.ofInt 64 (Int.ofNat b)).toNat≤b∧(BitVec.ofInt 64 (Int.ofNat b)).toNat=b:=by
 have hb':(BitVec.ofInt 64 (Int.ofNat b)).toNat=b:=by
  rw [BitVec.toNat_ofInt]
  show (Int.ofNat b % ((2 ^ 64:Nat):Int)).toNat=b
  have:(Int.ofNat b)=((b:Nat):Int):=rfl
  rw [this];omega
 have hr:(BitVec.ofInt 64 x &&& BitVec.ofInt 64 (Int.ofNat b)).toNat≤b:=by
  rw [BitVec.toNat_and,hb'];exact Nat.and_le_right
 refine⟨?_,hr,hb'⟩
 show IntKind.i64.wrap (((BitVec.ofInt 64 x &&& BitVec.ofInt 64 (Int.ofNat b)).toNat:Nat):Int)=_
 generalize (BitVec.ofInt 64 x &&& BitVec.ofInt 64 (Int.ofNat b)).toNat=r at hr
 show IntKind.i64.wrap ((r:Nat):Int)=((r:Nat):Int)
 simp [IntKind.wrap,IntKind.bits,IntKind.signed];omega
theorem AE(hs:Sim w0 ρ h w){t:Nat}{k k':IntKind}{c j:Nat}{n b:Int}(hr:j6 k true c j n):ValOk P w0 ρ h w (binOp .and t (.int k n) (.int k' b)) (qM k k' c j b h):=by
 unfold qM
 split
 ·rename_i b
  refine aa (fun hc=>?_) (fun _=>trivial)
  simp only [Bool.and_eq_true] at hc
  obtain⟨⟨hk,hk'⟩,hl⟩:=hc
  have:=ap hk;subst this
  have:=ap hk';subst this
  have hl:b &&& c=c:=Nat.eq_of_beq_eq_true hl
  unfold tT
  refine aa (fun hc=>?_) (fun _=>trivial)
  have hle:=Nat.le_of_ble_eq_true hc
  have hcb:c≤b:=by rw [←hl];exact Nat.and_le_left
  obtain⟨e1,e2,e3⟩:=Co b (by omega) n
  obtain⟨f1,_,f3⟩:=Co c (by omega) n
  have hr:bits .and .i64 n (Int.ofNat c)=Int.ofNat j:=hr
  rw [f1] at hr
  have hr:(BitVec.ofInt 64 n &&& BitVec.ofInt 64 (Int.ofNat c)).toNat=j:=by
   have:=hr;simp only [Int.ofNat_eq_natCast] at this;exact_mod_cast this
  refine⟨_,jW _ _ h (j:=(BitVec.ofInt 64 n &&& BitVec.ofInt 64 (Int.ofNat b)).toNat) ?_ (Nat.lt_succ_of_le e2),au hs (.int _ _) ?_⟩
  ·have hx:Nat.land (BitVec.ofInt 64 n &&& BitVec.ofInt 64 (Int.ofNat b)).toNat c=j:=by
    rw [←hr,BitVec.toNat_and,BitVec.toNat_and,e3,f3]
    show ((BitVec.ofInt 64 n).toNat &&& b) &&& c=_
    rw [Nat.and_assoc,hl]
   show Nat.beq (Nat.land _ c) j=true
   rw [hx];exact Nat.beq_refl j
  ·rw [←e1,binOp_and,intBits_and]
   rfl
 ·exact trivial
theorem AF(hs:Sim w0 ρ h w){t:Nat}{k k':IntKind}{c j:Nat}{n b:Int}(hr:j6 k false c j n):ValOk P w0 ρ h w (binOp .rem t (.int k n) (.int k' b)) (qN k k' c j b h):=by
 unfold qN
 split
 ·rename_i b
  refine aa (fun hc=>?_) (fun _=>trivial)
  simp only [Bool.and_eq_true] at hc
  obtain⟨⟨hk,hk'⟩,h1,hm⟩:=hc
  have:=ap hk;subst this
  have:=ap hk';subst this
  have h1:1≤b:=Nat.le_of_ble_eq_true h1
  have hm:b % c=0:=Nat.eq_of_beq_eq_true hm
  obtain⟨hr,hw⟩:(IntKind.u64.wrap n).tmod (Int.ofNat c)=Int.ofNat j∧(IntKind.u64=.u64→IntKind.u64.wrap n=n):=hr
  have hw:=hw rfl
  have h0:0≤n:=by rw [←hw];simp [IntKind.wrap,IntKind.bits,IntKind.signed];omega
  rw [hw] at hr
  obtain⟨N,rfl⟩:=Int.eq_ofNat_of_zero_le h0
  have hr:N % c=j:=by
   have:((N:Int)).tmod (c:Int)=(j:Int):=hr
   rw [←Int.ofNat_tmod] at this;exact_mod_cast this
  have hb0:b≠0:=by omega
  refine ES hs (j:=N % b) ?_ (Nat.mod_lt _ h1) ?_
  ·have hx:Nat.mod (N % b) c=j:=by
    show N % b % c=j
    rw [Nat.mod_mod_of_dvd _ (Nat.dvd_of_mod_eq_zero hm)];exact hr
   show Nat.beq (Nat.mod _ c) j=true
   rw [hx];exact Nat.beq_refl j
  ·have e:((N:Int)).tmod (Int.ofNat b)=Int.ofNat (N % b):=by
    show ((N:Int)).tmod (b:Int)=((N % b:Nat):Int)
    rw [←Int.ofNat_tmod]
   rw [←e]
   simp [binOp,Op.intDiv,hb0]
 ·exact trivial
theorem DQ(hs:Sim w0 ρ h w){op:BinOp}{t:Nat}{k k':IntKind}{m:Bool}{c j:Nat}{n b:Int}(hr:j6 k m c j n):
  ValOk P w0 ρ h w (binOp op t (.int k n) (.int k' b)) (tU op k m c j k' b h):=by
 unfold tU
 split
 ·refine aa (fun hc=>?_) (fun _=>aa (fun hm=>by subst hm;exact AE hs hr) (fun _=>trivial))
  simp only [Bool.and_eq_true] at hc
  obtain⟨⟨rfl,hk⟩,hb⟩:=hc
  have:=ap hk;subst this
  have:=(aX _ _).1 hb;subst this
  have hr:bits .and k n (Int.ofNat c)=Int.ofNat j:=hr
  refine au hs (.int _ _) ?_
  rw [←hr,binOp_and,intBits_and]
  rfl
 ·refine aa (fun hc=>?_) (fun _=>aa (fun hm=>by
   simp only [Bool.and_eq_true,Bool.not_eq_true'] at hm
   obtain⟨hm,_⟩:=hm
   subst hm
   exact AF hs hr) (fun _=>trivial))
  simp only [Bool.and_eq_true] at hc
  obtain⟨⟨hm,h0⟩,hk,hk',hb⟩:=hc
  have:=ap hk;subst this
  have:=ap hk';subst this
  have:=(aX _ _).1 hb;subst this
  have hm:m=false:=by simpa using hm
  subst hm
  obtain⟨hr,hw⟩:(IntKind.u64.wrap n).tmod (Int.ofNat c)=Int.ofNat j∧(IntKind.u64=.u64→IntKind.u64.wrap n=n):=hr
  rw [hw rfl] at hr
  have h0:c≠0:=by intro e;subst e;cases h0
  refine au hs (.int _ _) ?_
  rw [←hr]
  have h0':(Int.ofNat c)≠0:=by simpa using h0
  simp [binOp,Op.intDiv,h0]
 ·exact trivial
theorem r9(k:IntKind)(d:Nat):∀ ds:List Nat,d ∈ ds→aQ d ds (fZ k ds)=.int k (Int.ofNat d)
 | [],h=>by cases h
 | e::r,h=>by
  show cond (Nat.beq d e) (AV.int k (Int.ofNat e)) (aQ d r (fZ k r))=_
  cases hb:Nat.beq d e with
  | true=>rw [Nat.eq_of_beq_eq_true hb];rfl
  | false=>
   cases h with
   | head=>rw [Nat.beq_refl] at hb;cases hb
   | tail _ h=>exact r9 k d r h
theorem vk(hs:Sim w0 ρ h w){k:IntKind}{b:Key}{L:Loc}{s:Sem Value}(hb:ρ b=some L)(e:s.run P w=.ok (.int k (Int.ofNat L.base)) w):ValOk P w0 ρ h w s (pg k b h):=by
 unfold pg
 split
 ·rename_i ds hg
  obtain⟨o,ho,_,hr⟩:=hs.obj b L hb
  rw [hg] at ho;injection ho with ho;subst ho
  have hm:L.base ∈ ds:=hr
  have hl:=r9 k L.base ds hm
  exact au hs (.tab b ds _ L _ hb (by rw [hl];rfl) (by rw [hl];exact .int _ _)) e
 ·exact trivial
theorem AG(hs:Sim w0 ρ h w){op:BinOp}{t:Nat}{k k':IntKind}{m:Bool}{c:Nat}{s:Key}{L:Loc}{n b:Int}(hs':ρ s=some L)(hr:j6 k m c L.base n):
  ValOk P w0 ρ h w (binOp op t (.int k n) (.int k' b)) (qO op k m c s k' b h):=by
 unfold qO
 split
 ·refine aa (fun hc=>?_) (fun _=>trivial)
  simp only [Bool.and_eq_true] at hc
  obtain⟨⟨rfl,hk⟩,hb⟩:=hc
  have:=ap hk;subst this
  have:=(aX _ _).1 hb;subst this
  have hr:bits .and k n (Int.ofNat c)=Int.ofNat L.base:=hr
  refine vk hs hs' ?_
  rw [←hr,binOp_and,intBits_and]
  rfl
 ·refine aa (fun hc=>?_) (fun _=>trivial)
  simp only [Bool.and_eq_true] at hc
  obtain⟨⟨hm,h0⟩,hk,hk',hb⟩:=hc
  have:=ap hk;subst this
  have:=ap hk';subst this
  have:=(aX _ _).1 hb;subst this
  have hm:m=false:=by simpa using hm
  subst hm
  obtain⟨hr,hw⟩:(IntKind.u64.wrap n).tmod (Int.ofNat c)=Int.ofNat L.base∧(IntKind.u64=.u64→IntKind.u64.wrap n=n):=hr
  rw [hw rfl] at hr
  have h0:c≠0:=by intro e;subst e;cases h0
  refine vk hs hs' ?_
  rw [←hr]
  simp [binOp,Op.intDiv,h0]
 ·exact trivial
theorem Cq(hP:TypesOk P)(hs:Sim w0 ρ h w){op:BinOp}{t:Nat}{x y:Operand}{a b:AV}{A B:Value}(ha:Rel ρ a A)(hb:Rel ρ b B):
  ValOk P w0 ρ h w (do eqGuard op t x y A B;binOp op t A B) (xq P op t (or (isC x) (isC y)) a b h):=by
 unfold xq
 split
 ·cases ha with | ustr la s hla=>
  subst hla
  split
  ·cases hb with | str m d hd=>exact bz (aq (by simp) (by simp)) (mw hs (by rw [aI]))
  ·cases hb with | ustr lb s2 hlb=>exact bz (aq (by simp) (by simp)) (mw hs (by rw [hlb]))
  ·exact trivial
 ·split
  ·cases ha;cases hb
   exact bz (aq (by simp) (by simp)) (DJ hs)
  ·exact trivial
 ·split
  ·cases ha with | str l c hc=>cases hb with | str m d hd=>exact bz (aq (by simp) (by simp)) (DP hs hc hd)
  ·cases ha with | str l c hc=>cases hb with | ustr lb s2 hlb=>exact bz (aq (by simp) (by simp)) (mw hs (by rw [aI,hlb]))
  ·exact trivial
 ·split
  ·cases ha;cases hb
   exact bz (aq (by simp) (by simp)) (gA hs)
  ·exact trivial
 ·split
  ·cases ha with | red k m c j n hr=>cases hb;exact bz (aq (by simp) (by simp)) (aa (fun _=>DQ hs hr) (fun _=>trivial))
  ·exact trivial
 ·split
  ·cases ha with | reds k m c s L n hb' hr=>cases hb;exact bz (aq (by simp) (by simp)) (AG hs hb' hr)
  ·exact trivial
 ·exact trivial
 ·exact trivial
 ·exact trivial
 ·exact trivial
 ·exact trivial
 ·rename_i h0 h1 h2 h3 h4 h5 h6 h7 h8 h9 h10
  exact yk hP hs ha hb ⟨fun k n e=>h1 k n e,fun l c e=>h2 l c e,fun k n e=>h3 k n e⟩ (fun k m c j e=>h4 k m c j e) (fun k m c s e=>h5 k m c s e) (fun b ds vs e=>h6 b ds vs e) (fun l e=>h0 l e) (fun k b n e=>h7 k b n e) (fun e=>h8 e) (fun lo hi e=>h9 lo hi e) (fun e=>h10 e)
end
end Go.VM
namespace Go.VM
section
variable {P:Program} {w0:Base} {ρ:Rho} {h:Heap} {w:World}
theorem gD{b:Key}{L:Loc}(hb:ρ b=some L):∀ {v:AV} {V:Value},Rel ρ v V→Rel ρ (c7 b L.base v) V:=by
 intro v V hr
 cases v with
 | tab b' ds vs=>
  show Rel ρ (cond (Key.same b b') (aQ L.base ds vs) (.tab b' ds vs)) V
  cases hsm:Key.same b b' with
  | false=>exact hr
  | true=>
   have:=(Key.same_iff _ _).1 hsm
   subst this
   cases hr with
   | tab _ _ _ L' _ hb' hp h=>rw [hb] at hb';cases hb';exact h
 | _=>exact hr
theorem eC{b:Key}{L:Loc}(hb:ρ b=some L):∀ {vs:List AV} {Vs:List Value},RelL ρ vs Vs→RelL ρ (aT b L.base vs) Vs
 | _,_,.nil=>.nil
 | _,_,.cons _ _ _ _ h r=>.cons _ _ _ _ (gD hb h) (eC hb r)
theorem eS{b:Key}:∀ {vs:List AV} {Vs:List Value},RelL ρ vs Vs→jA vs=some b→∃ L,ρ b=some L
 | _,_,.nil,e=>by cases e
 | v::r,_,.cons _ _ _ _ h hr,e=>by
  cases v with
  | tab b' ds vs=>
   have e:some b'=some b:=e
   cases e
   cases h with
   | tab _ _ _ L' _ hb' hp h=>exact⟨L',hb'⟩
  | _=>exact eS hr e
theorem my{a b:Bool}{x:Option Bool}(e:fW a x=some b):a=b∧x=some b:=by
 unfold fW at e
 cases x with
 | none=>cases e
 | some c=>cases a<;>cases b<;>cases c<;>simp at e ⊢
theorem pC{f:Nat→Option Bool}{b:Bool}:∀ {ds:List Nat},kQ f ds=some b→∀ d ∈ ds,f d=some b
 | [],e,_,_=>by cases e
 | [d],e,x,hx=>by
  have:x=d:=by simpa using hx
  subst this;exact e
 | d::d'::r,e,x,hx=>by
  have e:((f d).bind fun a=>fW a (kQ f (d'::r)))=some b:=e
  cases hf:f d with
  | none=>rw [hf] at e;cases e
  | some a=>
   rw [hf] at e
   obtain⟨rfl,e⟩:=my e
   cases hx with
   | head=>exact hf
   | tail _ hx=>exact pC e x hx
theorem AH{b:Key}{d:Nat}{v x:AV}(e:nC b d v=some x):c7 b d v=x:=by
 unfold nC at e
 split at e
 ·rename_i b' f ds y ys
  show cond (Key.same b b') (cond (Nat.beq d f) y (aQ d ds ys)) _=x
  cases hb:Key.same b b' with
  | false=>rw [hb] at e;cases e;rfl
  | true=>
   rw [hb] at e
   have e:cond (Nat.beq d f) (some y) none=some x:=e
   cases hd:Nat.beq d f with
   | false=>rw [hd] at e;cases e
   | true=>rw [hd] at e;cases e;rfl
 ·rename_i b' ds ys hne
  show cond (Key.same b b') _ _=x
  cases hb:Key.same b b' with
  | false=>rw [hb] at e;cases e;rfl
  | true=>rw [hb] at e;cases e
 ·rename_i hne
  cases e
  cases v<;>first | rfl | exact absurd rfl (hne _ _ _)
theorem AJ{b:Key}{d f:Nat}{v x:AV}(e:nC b f v=some x)(hd:Nat.beq d f=false):c7 b d (G9 b v)=c7 b d v:=by
 unfold nC at e
 split at e
 ·rename_i b' g ds y ys
  show c7 b d (cond (Key.same b b') (.tab b' ds ys) (.tab b' (g::ds) (y::ys)))=cond (Key.same b b') (cond (Nat.beq d g) y (aQ d ds ys)) _
  cases hb:Key.same b b' with
  | false=>show cond (Key.same b b') _ _=_;rw [hb];rfl
  | true=>
   rw [hb] at e
   have e:cond (Nat.beq f g) (some y) none=some x:=e
   cases hf:Nat.beq f g with
   | false=>rw [hf] at e;cases e
   | true=>
    have:=Nat.eq_of_beq_eq_true hf
    subst this
    rw [hd]
    show cond (Key.same b b') (aQ d ds ys) _=aQ d ds ys
    rw [hb];rfl
 ·rename_i b' ds ys hne
  cases ds with
  | nil=>rfl
  | cons _ _=>cases ys with
   | nil=>rfl
   | cons _ _=>exact (hne _ _ _ _ rfl rfl).elim
 ·rename_i hne
  cases v<;>first | rfl | exact absurd rfl (hne _ _ _)
theorem dC{b:Key}{d:Nat}:∀ {vs xs:List AV},bu b d vs=some xs→aT b d vs=xs
 | [],_,e=>by cases e;rfl
 | v::r,xs,e=>by
  have e:((nC b d v).bind fun x=>(bu b d r).bind fun xs=>some (x::xs))=some xs:=e
  cases h1:nC b d v with
  | none=>rw [h1] at e;cases e
  | some x=>
   rw [h1] at e
   have e:((bu b d r).bind fun xs=>some (x::xs))=some xs:=e
   cases h2:bu b d r with
   | none=>rw [h2] at e;cases e
   | some ys=>
    rw [h2] at e
    have e:some (x::ys)=some xs:=e
    cases e
    show c7 b d v::aT b d r=_
    rw [AH h1,dC h2]
theorem eL{b:Key}{d f:Nat}(hd:Nat.beq d f=false):∀ {vs xs:List AV},bu b f vs=some xs→aT b d (bF b vs)=aT b d vs
 | [],_,_=>rfl
 | v::r,xs,e=>by
  have e:((nC b f v).bind fun x=>(bu b f r).bind fun xs=>some (x::xs))=some xs:=e
  cases h1:nC b f v with
  | none=>rw [h1] at e;cases e
  | some x=>
   rw [h1] at e
   have e:((bu b f r).bind fun xs=>some (x::xs))=some xs:=e
   cases h2:bu b f r with
   | none=>rw [h2] at e;cases e
   | some ys=>
    show c7 b d (G9 b v)::aT b d (bF b r)=c7 b d v::aT b d r
    rw [AJ h1 hd,eL hd h2]
theorem ol{g:List AV→Option AV}{b:Key}:∀ {ds:List Nat} {vs rs:List AV},cI g b ds vs=some rs→∀ d ∈ ds,g (aT b d vs)=some (aQ d ds rs)
 | [],_,_,_,_,hd=>by cases hd
 | f::ds,vs,rs,e,d,hd=>by
  have e:((bu b f vs).bind fun xs=>(g xs).bind fun v=>(cI g b ds (bF b vs)).bind fun l=>some (v::l))=some rs:=e
  cases h1:bu b f vs with
  | none=>rw [h1] at e;cases e
  | some xs=>
   rw [h1] at e
   have e:((g xs).bind fun v=>(cI g b ds (bF b vs)).bind fun l=>some (v::l))=some rs:=e
   cases h2:g xs with
   | none=>rw [h2] at e;cases e
   | some v=>
    rw [h2] at e
    have e:((cI g b ds (bF b vs)).bind fun l=>some (v::l))=some rs:=e
    cases h3:cI g b ds (bF b vs) with
    | none=>rw [h3] at e;cases e
    | some l=>
     rw [h3] at e
     have e:some (v::l)=some rs:=e
     cases e
     show g (aT b d vs)=some (cond (Nat.beq d f) v (aQ d ds l))
     cases hb:Nat.beq d f with
     | true=>have:=Nat.eq_of_beq_eq_true hb;subst this;rw [dC h1];exact h2
     | false=>
      cases hd with
      | head=>rw [Nat.beq_refl] at hb;cases hb
      | tail _ hd=>rw [←eL hb h1];exact ol h3 d hd
theorem vn{g:List AV→Option Bool}{b:Key}{c:Bool}:∀ {ds:List Nat} {vs:List AV},ql g b ds vs=some c→∀ d ∈ ds,g (aT b d vs)=some c
 | [],_,e,_,_=>by cases e
 | [f],vs,e,d,hd=>by
  have:d=f:=by simpa using hd
  subst this
  have e:(bu b d vs).bind g=some c:=e
  cases h1:bu b d vs with
  | none=>rw [h1] at e;cases e
  | some xs=>rw [h1] at e;rw [dC h1];exact e
 | f::f2::r,vs,e,d,hd=>by
  have e:(((bu b f vs).bind g).bind fun a=>fW a (ql g b (f2::r) (bF b vs)))=some c:=e
  cases h1:bu b f vs with
  | none=>rw [h1] at e;cases e
  | some xs=>
   rw [h1] at e
   have e:((g xs).bind fun a=>fW a (ql g b (f2::r) (bF b vs)))=some c:=e
   cases h2:g xs with
   | none=>rw [h2] at e;cases e
   | some a=>
    rw [h2] at e
    obtain⟨rfl,e⟩:=my (show fW a (ql g b (f2::r) (bF b vs))=some c from e)
    cases hb:Nat.beq d f with
    | true=>have:=Nat.eq_of_beq_eq_true hb;subst this;rw [dC h1];exact h2
    | false=>
     cases hd with
     | head=>rw [Nat.beq_refl] at hb;cases hb
     | tail _ hd=>rw [←eL hb h1];exact vn e d hd
theorem dU(hs:Sim w0 ρ h w){b:Key}{L:Loc}(hb:ρ b=some L)(hne:b9 (h.get b)≠[]):h.get b=some (.dom (b9 (h.get b)))∧L.base ∈ b9 (h.get b):=by
 obtain⟨o,ho,_,hr⟩:=hs.obj b L hb
 rw [ho] at hne ⊢
 cases o with
 | dom ds=>exact⟨rfl,hr⟩
 | _=>exact absurd rfl hne
theorem ET(hs:Sim w0 ρ h w){t:Nat}{x y:AV}{X Y:Value}{b:Bool}(hx:Rel ρ x X)(hy:Rel ρ y Y)(e:eqT P h t x y=some b):
  ∃ x' y',Rel ρ x' X∧Rel ρ y' Y∧eqA P h 50 t x' y'=some b:=by
 unfold eqT at e
 cases he:eqA P h 50 t x y with
 | some b'=>rw [he] at e;cases e;exact⟨x,y,hx,hy,he⟩
 | none=>
  rw [he] at e
  have e:IG P h t x y (jA [x,y])=some b:=e
  cases hk:jA [x,y] with
  | none=>rw [hk] at e;cases e
  | some k=>
   rw [hk] at e
   have e:Jm (ql (Ga P h t) k (b9 (h.get k)) [x,y]) (kQ (fun d=>eqA P h 50 t (c7 k d x) (c7 k d y)) (b9 (h.get k)))=some b:=e
   obtain⟨L,hL⟩:=eS (.cons _ _ _ _ hx (.cons _ _ _ _ hy .nil)) hk
   cases hz:ql (Ga P h t) k (b9 (h.get k)) [x,y] with
   | some c=>
    rw [hz] at e
    have e:some c=some b:=e
    injection e with e;subst e
    have hne:b9 (h.get k)≠[]:=fun hy=>by rw [hy] at hz;cases hz
    exact⟨_,_,gD hL hx,gD hL hy,vn hz _ (dU hs hL hne).2⟩
   | none=>
    rw [hz] at e
    have e:kQ (fun d=>eqA P h 50 t (c7 k d x) (c7 k d y)) (b9 (h.get k))=some b:=e
    have hne:b9 (h.get k)≠[]:=fun hz=>by rw [hz] at e;cases e
    exact⟨_,_,gD hL hx,gD hL hy,pC e _ (dU hs hL hne).2⟩
def yl:TypeDesc→Bool
 | .int _=>true | .string=>true | .bool=>true
 | _=>false
theorem Hq(hP:TypesOk P)(hs:Sim w0 ρ h w){kt:Nat}{k k':AV}{K K':Value}{b:Bool}(hk:Rel ρ k K)(hk':Rel ρ k' K')(e:eqA P h 50 kt k k'=some b)(d:TypeDesc)(hd:P.underlying kt=some d):
  (Op.equal kt K K').run P w=.ok b w∧(yl d=true→Instr.sameNow d K K'=some b)∧(∀ el,d=.pointer el→Instr.sameNow d K K'=none∧(b=true→∀ n,Instr.sameBits n K' K=true))∧(yl d=true→b=true→∀ n,Instr.sameBits n K' K=true):=by
 refine⟨ER hP hs 50 kt k k' K K' b hk hk' e Op.maxDepth (by decide),?_,?_,?_⟩
 ·intro hn
  unfold eqA at e
  rw [hd] at e
  cases d with
  | int kk=>
   cases hk with
   | int k1 a=>cases hk' with
    | int k2 c=>
     dsimp only at e
     cases hkk:Nat.beq (aj k1) (aj k2) with
     | false=>rw [hkk] at e;cases e
     | true=>
      rw [hkk] at e
      have:=ap hkk;subst this
      have e':bO a c=b:=by simpa using e
      rw [←e',qT];simp [Instr.sameNow]
    | _=>cases e
   | _=>cases e
  | string=>
   cases hk with
   | str l1 c1 h1=>cases hk' with
    | str l2 c2 h2=>
     dsimp only at e
     have e':cond (Nat.beq l1 l2) (Nat.beq c1 c2) false=b:=by simpa using e
     rw [←e',lF h1 h2,←bw,←bw,←beq_toListBytes];rfl
    | _=>cases e
   | _=>cases e
  | bool=>
   cases hk with
   | bool a=>cases hk' with
    | bool c=>dsimp only at e;have e':(a == c)=b:=by simpa using e
              rw [←e'];rfl
    | _=>cases e
   | _=>cases e
  | _=>simp [yl] at hn
 ·intro el hel
  subst hel
  unfold eqA at e
  rw [hd] at e
  cases hk with
  | nilPtr=>cases hk' with
   | nilPtr=>exact⟨rfl,fun _ n=>by cases n<;>rfl⟩
   | ptr b2 o2 L2 h2=>dsimp only at e;exact⟨rfl,fun hb=>by subst hb;simp at e⟩
   | _=>cases e
  | ptr b1 o1 L1 h1=>cases hk' with
   | nilPtr=>dsimp only at e;exact⟨rfl,fun hb=>by subst hb;simp at e⟩
   | ptr b2 o2 L2 h2=>
    refine⟨rfl,fun hb=>?_⟩
    subst hb
    dsimp only at e
    cases hz:Nat.beq (aU P el) 0 with
    | true=>rw [hz] at e;cases e
    | false=>
     rw [hz] at e
     simp only [cond_false] at e
     unfold D5 at e
     cases hsm:Key.same b1 b2 with
     | false=>
      rw [hsm] at e
      cases ha:qk h b1<;>cases hb:qk h b2<;>simp [ha,hb] at e
     | true=>
      rw [hsm] at e
      have:=(Key.same_iff _ _).1 hsm
      subst this
      rw [h1] at h2;cases h2
      have:o1=o2:=by simpa using e
      subst this
      intro n;cases n<;>simp [Instr.sameBits]
   | _=>cases e
  | _=>cases e
 ·intro hn hb
  subst hb
  unfold eqA at e
  rw [hd] at e
  cases d with
  | int kk=>
   cases hk with
   | int k1 a=>cases hk' with
    | int k2 c=>
     dsimp only at e
     cases hkk:Nat.beq (aj k1) (aj k2) with
     | false=>rw [hkk] at e;cases e
     | true=>
      rw [hkk] at e
      have:=ap hkk;subst this
      have e':bO a c=true:=by simpa using e
      have:=(aX a c).1 e'
      subst this
      intro n;cases n<;>simp [Instr.sameBits]
    | _=>cases e
   | _=>cases e
  | string=>
   cases hk with
   | str l1 c1 h1=>cases hk' with
    | str l2 c2 h2=>
     dsimp only at e
     have e':cond (Nat.beq l1 l2) (Nat.beq c1 c2) false=true:=by simpa using e
     have:l1=l2∧c1=c2:=by
      cases hl:Nat.beq l1 l2 with
      | false=>rw [hl] at e';cases e'
      | true=>rw [hl] at e';exact⟨Nat.eq_of_beq_eq_true hl,Nat.eq_of_beq_eq_true e'⟩
     obtain⟨rfl,rfl⟩:=this
     intro n;cases n<;>simp [Instr.sameBits,beq_toListBytes]
    | _=>cases e
   | _=>cases e
  | bool=>
   cases hk with
   | bool a=>cases hk' with
    | bool c=>
     dsimp only at e;have e':(a == c)=true:=by simpa using e
     have:a=c:=by simpa using e'
     subst this
     intro n;cases n<;>simp [Instr.sameBits]
    | _=>cases e
   | _=>cases e
  | _=>simp [yl] at hn
theorem ii(hP:TypesOk P)(hs:Sim w0 ρ h w){kt:Nat}{k k':AV}{K K':Value}{b:Bool}(hk:Rel ρ k K)(hk':Rel ρ k' K')(e:eqT P h kt k k'=some b)(d:TypeDesc)(hd:P.underlying kt=some d):
  (Op.equal kt K K').run P w=.ok b w∧(yl d=true→Instr.sameNow d K K'=some b)∧(∀ el,d=.pointer el→Instr.sameNow d K K'=none∧(b=true→∀ n,Instr.sameBits n K' K=true))∧(yl d=true→b=true→∀ n,Instr.sameBits n K' K=true):=by
 obtain⟨x,y,hx,hy,e⟩:=ET hs hk hk' e
 exact Hq hP hs hx hy e d hd
end
end Go.VM
namespace Go.VM
theorem ERel.length{ρ:Rho}:∀ {es:List (AV × AV × Nat)} {E:List MapEntry},ERel ρ es E→E.length=es.length
 | _,_,.nil=>rfl
 | _,_,.cons _ _ _ _ _ _ _ _ _ hr=>by simp [ERel.length hr]
theorem ERel.append{ρ:Rho}:∀ {a b:List (AV × AV × Nat)} {A B:List MapEntry},ERel ρ a A→ERel ρ b B→ERel ρ (a++b) (A++B)
 | _,_,_,_,.nil,h=>h
 | _,_,_,_,.cons k v K V c _ _ hk hv hr,h=>.cons k v K V c _ _ hk hv (ERel.append hr h)
theorem ERel.modify{ρ:Rho}{k v:AV}{K V:Value}(hk:Rel ρ k K)(hv:Rel ρ v V):∀ {a:List (AV × AV × Nat)} {A:List MapEntry} (i:Nat),ERel ρ a A→ERel ρ (a.modify i fun e=>(k,v,e.2.2)) (A.modify i fun e=>{ e with key:=K,val:=V })
 | _,_,_,.nil=>by simpa using ERel.nil
 | _,_,0,.cons _ _ _ _ c _ _ _ _ hr=>by simpa using ERel.cons k v K V c _ _ hk hv hr
 | _,_,i+1,.cons k' v' K' V' c _ _ hk' hv' hr=>by simpa using ERel.cons k' v' K' V' c _ _ hk' hv' (ERel.modify hk hv i hr)
theorem ERel.eraseIdx{ρ:Rho}:∀ {a:List (AV × AV × Nat)} {A:List MapEntry} (i:Nat),ERel ρ a A→ERel ρ (a.eraseIdx i) (A.eraseIdx i)
 | _,_,_,.nil=>by simpa using ERel.nil
 | _,_,0,.cons _ _ _ _ c _ _ _ _ hr=>by simpa using hr
 | _,_,i+1,.cons k' v' K' V' c _ _ hk' hv' hr=>by simpa using ERel.cons k' v' K' V' c _ _ hk' hv' (ERel.eraseIdx i hr)
theorem ERel.get?{ρ:Rho}:∀ {a:List (AV × AV × Nat)} {A:List MapEntry} (i:Nat) {e:AV × AV × Nat},ERel ρ a A→a[i]?=some e→∃ K V,A[i]?=some { key:=K,val:=V,born:=e.2.2 }∧Rel ρ e.1 K∧Rel ρ e.2.1 V
 | _,_,_,_,.nil,h=>by simp at h
 | _,_,0,_,.cons k v K V c _ _ hk hv _,h=>by simp at h;subst h;exact⟨K,V,by simp,hk,hv⟩
 | _,_,i+1,_,.cons _ _ _ _ _ _ _ _ _ hr,h=>by
  simp at h
  obtain⟨K,V,e,r⟩:=ERel.get? i hr h
  exact⟨K,V,by simpa using e,r⟩
section
variable {P:Program} {w0:Base} {ρ:Rho} {h:Heap} {w:World}
def cx(f:AV→Option Bool):List (AV × AV × Nat)→Option (Option Nat)
 | []=>some none
 | (k',_,_)::r=>match f k' with
  | some true=>some (some 0)
  | some false=>(match cx f r with | some p=>some (p.map (·+1)) | none=>none)
  | none=>none
theorem mz{kt:Nat}{k:AV}:∀ {es:List (AV × AV × Nat)} {r:Option AV},dm P h kt k es=some r→∃ p,cx (eqT P h kt k) es=some p∧r=p.bind fun i=>(es[i]?).map (·.2.1)
 | [],r,e=>by simp [dm] at e;subst e;exact⟨none,rfl,rfl⟩
 | (k',v,c)::es,r,e=>by
  unfold dm at e
  unfold cx
  cases hq:eqT P h kt k k' with
  | none=>simp [hq] at e
  | some b=>
   cases b with
   | true=>simp [hq] at e;subst e;exact⟨some 0,rfl,rfl⟩
   | false=>
    simp only [hq] at e
    obtain⟨p,hp,hr⟩:=mz e
    refine⟨p.map (·+1),by simp [hp],?_⟩
    rw [hr];cases p<;>simp
theorem pD{kt:Nat}{k v:AV}{clock:Nat}:∀ {es es':List (AV × AV × Nat)} {nw:Bool},iK P h kt k v clock es=some (es',nw)→∃ p,cx (eqT P h kt k) es=some p∧
  (match p with | none=>nw=true∧es'=es++[(k,v,clock)] | some i=>nw=false∧i < es.length∧es'=es.modify i fun e=>(k,v,e.2.2))
 | [],es',nw,e=>by simp [iK] at e;obtain⟨rfl,rfl⟩:=e;exact⟨none,rfl,rfl,rfl⟩
 | (k',v',c)::es,es',nw,e=>by
  unfold iK at e
  unfold cx
  cases hq:eqT P h kt k k' with
  | none=>simp [hq] at e
  | some b=>
   cases b with
   | true=>simp [hq] at e;obtain⟨rfl,rfl⟩:=e;exact⟨some 0,rfl,rfl,by simp,by simp⟩
   | false=>
    simp only [hq] at e
    cases hr:iK P h kt k v clock es with
    | none=>simp [hr] at e
    | some x=>
     obtain⟨l,n⟩:=x
     simp [hr] at e
     obtain⟨rfl,rfl⟩:=e
     obtain⟨p,hp,hm⟩:=pD hr
     cases p with
     | none=>obtain⟨a,b⟩:=hm;exact⟨none,by simp [hp],a,by simp [b]⟩
     | some i=>obtain⟨a,b,c⟩:=hm;exact⟨some (i+1),by simp [hp],a,by simp [b],by simp [c]⟩
theorem pE{kt:Nat}{k:AV}:∀ {es es':List (AV × AV × Nat)},iL P h kt k es=some es'→∃ p,cx (eqT P h kt k) es=some p∧es'=(match p with | none=>es | some i=>es.eraseIdx i)
 | [],es',e=>by simp [iL] at e;subst e;exact⟨none,rfl,rfl⟩
 | (k',v',c)::es,es',e=>by
  unfold iL at e
  unfold cx
  cases hq:eqT P h kt k k' with
  | none=>simp [hq] at e
  | some b=>
   cases b with
   | true=>simp [hq] at e;subst e;exact⟨some 0,rfl,by simp⟩
   | false=>
    simp only [hq] at e
    cases hr:iL P h kt k es with
    | none=>simp [hr] at e
    | some l=>
     simp [hr] at e
     subst e
     obtain⟨p,hp,hm⟩:=pE hr
     cases p with
     | none=>exact⟨none,by simp [hp],by simp [hm]⟩
     | some i=>exact⟨some (i+1),by simp [hp],by simp [hm]⟩
end
end Go.VM
namespace Go.VM
section
variable {P:Program} {w0:Base} {ρ:Rho} {h:Heap} {w:World}
def aP(E:List MapEntry)(o:Nat)(p:Option Nat):Option (Nat × Value):=p.bind fun i=>(E[i]?).map fun e=>(o+i,e.val)
theorem pF{d:TypeDesc}{K:Value}{f:AV→Option Bool}:∀ {es:List (AV × AV × Nat)} {E:List MapEntry} {p:Option Nat} (o:Nat),ERel ρ es E→(∀ k' K' b,Rel ρ k' K'→f k'=some b→Instr.sameNow d K K'=some b)→
  cx f es=some p→Instr.findNow d K E o=some (aP E o p)
 | _,_,p,o,.nil,_,hp=>by simp [cx] at hp;subst hp;rfl
 | _,_,p,o,.cons k v K' V c r R hk hv hr,hf,hp=>by
  unfold cx at hp
  unfold Instr.findNow
  cases hq:f k with
  | none=>simp [hq] at hp
  | some b=>
   rw [hf k K' b hk hq]
   cases b with
   | true=>simp [hq] at hp;subst hp;simp [aP]
   | false=>
    simp only [hq] at hp
    cases hr':cx f r with
    | none=>simp [hr'] at hp
    | some q=>
     simp [hr'] at hp
     subst hp
     dsimp only
     rw [pF (o+1) hr hf hr']
     cases q with
     | none=>simp [aP]
     | some i=>simp [aP,show o+1+i=o+(i+1) by omega]
theorem j7{kt:Nat}{K:Value}{f:AV→Option Bool}:∀ {es:List (AV × AV × Nat)} {E:List MapEntry} {p:Option Nat} (o:Nat),ERel ρ es E→(∀ k' K' b,Rel ρ k' K'→f k'=some b→(Op.equal kt K K').run P w=.ok b w)→
  cx f es=some p→(Instr.findAsking kt K E o).run P w=.ok (aP E o p) w
 | _,_,p,o,.nil,_,hp=>by simp [cx] at hp;subst hp;rfl
 | _,_,p,o,.cons k v K' V c r R hk hv hr,hf,hp=>by
  unfold cx at hp
  unfold Instr.findAsking
  cases hq:f k with
  | none=>simp [hq] at hp
  | some b=>
   simp only [Sem.run_bind,hf k K' b hk hq,Result.andThen_ok]
   cases b with
   | true=>simp [hq] at hp;subst hp;simp [aP]
   | false=>
    simp only [hq] at hp
    cases hr':cx f r with
    | none=>simp [hr'] at hp
    | some q=>
     simp [hr'] at hp
     subst hp
     simp only [Bool.false_eq_true,if_false]
     rw [j7 (o+1) hr hf hr']
     cases q with
     | none=>simp [aP]
     | some i=>simp [aP,show o+1+i=o+(i+1) by omega]
theorem eX{kt:Nat}(hk:keyT P kt=true):∃ d,P.underlying kt=some d∧(yl d=true∨∃ e,d=.pointer e):=by
 unfold keyT at hk
 cases hu:P.underlying kt with
 | none=>simp [hu] at hk
 | some d=>cases d<;>simp [hu] at hk<;>first | exact⟨_,rfl,.inl rfl⟩ | exact⟨_,rfl,.inr ⟨_,rfl⟩⟩
theorem c6(hP:TypesOk P)(hs:Sim w0 ρ h w){kt:Nat}{k:AV}{K:Value}{es:List (AV × AV × Nat)}{E:List MapEntry}{p:Option Nat}(hkt:keyT P kt=true)(hk:Rel ρ k K)(hE:ERel ρ es E)
  (hp:cx (eqT P h kt k) es=some p):(Instr.findKey kt K E).run P w=.ok (aP E 0 p) w:=by
 obtain⟨d,hd,hc⟩:=eX hkt
 unfold Instr.findKey
 simp only [Sem.run_bind,a8 hd,Result.andThen_ok]
 have h1:∀ k' K' b,Rel ρ k' K'→eqT P h kt k k'=some b→(Op.equal kt K K').run P w=.ok b w:=fun k' K' b hk' e=>(ii hP hs hk hk' e d hd).1
 rcases hc with hn | ⟨el,hel⟩
 ·have h2:∀ k' K' b,Rel ρ k' K'→eqT P h kt k k'=some b→Instr.sameNow d K K'=some b:=fun k' K' b hk' e=>(ii hP hs hk hk' e d hd).2.1 hn
  rw [pF 0 hE h2 hp]
  rfl
 ·cases hE with
  | nil=>simp [cx] at hp;subst hp;rfl
  | cons k' v' K' V' c r R hk' hv' hr=>
   have hnone:Instr.findNow d K ({ key:=K',val:=V',born:=c }::R) 0=none:=by
    unfold cx at hp
    cases hq:eqT P h kt k k' with
    | none=>simp [hq] at hp
    | some b=>
     unfold Instr.findNow
     rw [((ii hP hs hk hk' hq d hd).2.2.1 el hel).1]
   rw [hnone]
   exact j7 0 (.cons k' v' K' V' c r R hk' hv' hr) h1 hp
theorem aA{kt:Nat}(hkt:keyT P kt=true)(b:Bool)(K:Value):(Instr.checkKey b 10000 kt K).run P w=.ok () w:=by
 obtain⟨d,hd,hc⟩:=eX hkt
 have key:∀ n,(Instr.checkKey b (n+1) kt K).run P w=.ok () w:=by
  intro n
  unfold Instr.checkKey
  simp only [Sem.run_bind,a8 hd,Result.andThen_ok]
  rcases hc with hn | ⟨el,rfl⟩
  ·cases d<;>simp [yl] at hn<;>rfl
  ·rfl
 exact key 9999
end
end Go.VM
namespace Go.VM
def strip(e:AV × AV × Nat):AV × AV:=(e.1,e.2.1)
section
variable {P:Program} {w0:Base} {ρ:Rho} {h:Heap} {w:World}
theorem iy{kt:Nat}{k:AV}:∀ {es:List (AV × AV)},nG P h kt k es=true→∀ e ∈ es,eqT P h kt k e.1=some false
 | [],_,e,he=>by cases he
 | (k',v')::r,hn,e,he=>by
  unfold nG at hn
  split at hn
  ·rename_i hq
   cases he with
   | head=>exact hq
   | tail _ he=>exact iy hn e he
  ·cases hn
def Sole(f:AV→Option Bool)(a:List (AV × AV))(e:AV × AV)(b:List (AV × AV)):Prop:=f e.1=some true∧∀ x ∈ a++b,f x.1=some false
theorem Sole.cons{f:AV→Option Bool}{a:List (AV × AV)}{e x:AV × AV}{b:List (AV × AV)}(hx:f x.1=some false)(hs:Sole f a e b):Sole f (x::a) e b:=
 ⟨hs.1,fun y hy=>by
  cases hy with
  | head=>exact hx
  | tail _ hy=>exact hs.2 y hy⟩
theorem rY{kt:Nat}{k:AV}:∀ {es:List (AV × AV)} {r:Option AV},wq P h kt k es=some r→
  (r=none∧∀ e ∈ es,eqT P h kt k e.1=some false)∨∃ a e b,es=a++e::b∧r=some e.2∧Sole (eqT P h kt k) a e b
 | [],r,e=>by simp [wq] at e;exact .inl ⟨e.symm,fun _ h=>by cases h⟩
 | (k',v')::es,r,e=>by
  unfold wq at e
  split at e
  ·rename_i hq
   cases hn:nG P h kt k es with
   | false=>rw [hn] at e;cases e
   | true=>
    rw [hn] at e
    have e:some (some v')=some r:=e
    injection e with e
    exact .inr ⟨[],(k',v'),es,rfl,e.symm,hq,fun x hx=>iy hn x hx⟩
  ·rename_i hq
   rcases rY e with ⟨h1,h2⟩ | ⟨a,x,b,h1,h2,h3⟩
   ·refine .inl ⟨h1,fun y hy=>?_⟩
    cases hy with
    | head=>exact hq
    | tail _ hy=>exact h2 y hy
   ·exact .inr ⟨(k',v')::a,x,b,by rw [h1];rfl,h2,h3.cons hq⟩
  ·cases e
theorem vG{kt:Nat}{k v:AV}:∀ {es es2:List (AV × AV)} {nw:Bool},EA P h kt k v es=some (es2,nw)→
  (nw=true∧es2=es++[(k,v)]∧∀ e ∈ es,eqT P h kt k e.1=some false)∨∃ a e b,es=a++e::b∧nw=false∧es2=a++(k,v)::b∧Sole (eqT P h kt k) a e b
 | [],es2,nw,e=>by simp [EA] at e;exact .inl ⟨e.2,e.1.symm,fun _ h=>by cases h⟩
 | (k',v')::es,es2,nw,e=>by
  unfold EA at e
  split at e
  ·rename_i hq
   cases hn:nG P h kt k es with
   | false=>rw [hn] at e;cases e
   | true=>
    rw [hn] at e
    have e:some ((k,v)::es,false)=some (es2,nw):=e
    injection e with e;injection e with e1 e2
    exact .inr ⟨[],(k',v'),es,rfl,e2.symm,e1.symm,hq,fun x hx=>iy hn x hx⟩
  ·rename_i hq
   split at e
   ·rename_i l n hr
    injection e with e;injection e with e1 e2;subst e1;subst e2
    rcases vG hr with ⟨h1,h2,h3⟩ | ⟨a,x,b,h1,h2,h3,h4⟩
    ·refine .inl ⟨h1,by rw [h2];rfl,fun y hy=>?_⟩
     cases hy with
     | head=>exact hq
     | tail _ hy=>exact h3 y hy
    ·exact .inr ⟨(k',v')::a,x,b,by rw [h1];rfl,h2,by rw [h3];rfl,h4.cons hq⟩
   ·cases e
  ·cases e
theorem vH{kt:Nat}{k:AV}:∀ {es es2:List (AV × AV)},EB P h kt k es=some es2→
  (es2=es∧∀ e ∈ es,eqT P h kt k e.1=some false)∨∃ a e b,es=a++e::b∧es2=a++b∧Sole (eqT P h kt k) a e b
 | [],es2,e=>by simp [EB] at e;exact .inl ⟨e,fun _ h=>by cases h⟩
 | (k',v')::es,es2,e=>by
  unfold EB at e
  split at e
  ·rename_i hq
   cases hn:nG P h kt k es with
   | false=>rw [hn] at e;cases e
   | true=>
    rw [hn] at e
    have e:some es=some es2:=e
    injection e with e
    exact .inr ⟨[],(k',v'),es,rfl,e.symm,hq,fun x hx=>iy hn x hx⟩
  ·rename_i hq
   split at e
   ·rename_i l hr
    injection e with e;subst e
    rcases vH hr with ⟨h1,h2⟩ | ⟨a,x,b,h1,h2,h3⟩
    ·refine .inl ⟨by rw [h1],fun y hy=>?_⟩
     cases hy with
     | head=>exact hq
     | tail _ hy=>exact h2 y hy
    ·exact .inr ⟨(k',v')::a,x,b,by rw [h1];rfl,by rw [h2];rfl,h3.cons hq⟩
   ·cases e
  ·cases e
theorem oH{f:AV→Option Bool}:∀ {es:List (AV × AV × Nat)},(∀ e ∈ es,f e.1=some false)→cx f es=some none
 | [],_=>rfl
 | (k',v,c)::r,hf=>by
  unfold cx
  rw [hf (k',v,c) (List.mem_cons_self ..)]
  dsimp only
  rw [oH fun e he=>hf e (List.mem_cons_of_mem _ he)]
  rfl
theorem rZ{f:AV→Option Bool}{e:AV × AV × Nat}{b:List (AV × AV × Nat)}(he:f e.1=some true):∀ {a:List (AV × AV × Nat)},(∀ x ∈ a,f x.1=some false)→cx f (a++e::b)=some (some a.length)
 | [],_=>by obtain⟨k,v,c⟩:=e;show (match f k with | some true=>some (some 0) | some false=>_ | none=>none)=_;rw [he];rfl
 | (k',v,c)::r,hf=>by
  show (match f k' with | some true=>some (some 0) | some false=>(match cx f (r++e::b) with | some p=>some (p.map (·+1)) | none=>none) | none=>none)=_
  rw [hf (k',v,c) (List.mem_cons_self ..)]
  dsimp only
  rw [rZ he fun x hx=>hf x (List.mem_cons_of_mem _ hx)]
  rfl
theorem oI{f:AV→Option Bool}{es:List (AV × AV)}{es':List (AV × AV × Nat)}(hp:(es'.map strip).Perm es)(hf:∀ e ∈ es,f e.1=some false):cx f es'=some none:=
 oH fun e he=>hf (strip e) (hp.mem_iff.1 (List.mem_map.2 ⟨e,he,rfl⟩))
theorem oJ{f:AV→Option Bool}{a b:List (AV × AV)}{e:AV × AV}{es':List (AV × AV × Nat)}(hp:(es'.map strip).Perm (a++e::b))(hf:Sole f a e b):
  ∃ a' e' b',es'=a'++e'::b'∧strip e'=e∧((a'++b').map strip).Perm (a++b)∧cx f es'=some (some a'.length):=by
 have hm:e ∈ es'.map strip:=hp.mem_iff.2 (by simp)
 obtain⟨e',he',hs⟩:=List.mem_map.1 hm
 obtain⟨a',b',rfl⟩:=List.append_of_mem he'
 have h1:((a'++b').map strip).Perm (a++b):=by
  have h2:(e::(a'++b').map strip).Perm (e::(a++b)):=by
   refine List.Perm.trans ?_ (hp.trans List.perm_middle)
   rw [List.map_append,List.map_append,List.map_cons,hs]
   exact List.perm_middle.symm
  exact h2.cons_inv
 refine⟨a',e',b',rfl,hs,h1,rZ (by rw [←hf.1,←hs];rfl) fun x hx=>?_⟩
 exact hf.2 (strip x) (h1.mem_iff.1 (List.mem_map.2 ⟨x,List.mem_append_left _ hx,rfl⟩))
theorem lM{α:Type}(f:α→α)(e:α)(b:List α):∀ a:List α,(a++e::b).modify a.length f=a++f e::b
 | []=>by simp
 | x::a=>by simpa using lM f e b a
theorem vI{α:Type}(e:α)(b:List α):∀ a:List α,(a++e::b).eraseIdx a.length=a++b
 | []=>by simp
 | x::a=>by simpa using vI e b a
theorem Stamp.push{E:List MapEntry}{clock:Nat}(hs:Stamp E clock)(K V:Value):Stamp (E++[{ key:=K,val:=V,born:=clock }]) (clock+1):=by
 refine⟨fun e he=>?_,?_⟩
 ·rcases List.mem_append.1 he with h1 | h1
  ·have:=hs.1 e h1;omega
  ·obtain rfl:e=_:=by simpa using h1
   exact Nat.lt_succ_self _
 ·rw [List.map_append,List.nodup_append]
  refine⟨hs.2,by simp,fun x hx y hy=>?_⟩
  obtain⟨e,he,rfl⟩:=List.mem_map.1 hx
  obtain rfl:y=clock:=by simpa using hy
  have:=hs.1 e he
  omega
theorem Stamp.modify{E:List MapEntry}{clock:Nat}(hs:Stamp E clock)(K V:Value)(i:Nat):Stamp (E.modify i fun e=>{ e with key:=K,val:=V }) clock:=by
 have hb:(E.modify i fun e=>{ e with key:=K,val:=V }).map (·.born)=E.map (·.born):=by
  induction E generalizing i with
  | nil=>simp
  | cons x r ih=>
   cases i with
   | zero=>simp
   | succ i=>simp [ih ⟨fun e he=>hs.1 e (List.mem_cons_of_mem _ he),(List.nodup_cons.1 hs.2).2⟩ i]
 refine⟨fun e he=>?_,by rw [hb];exact hs.2⟩
 have:e.born ∈ E.map (·.born):=by rw [←hb];exact List.mem_map.2 ⟨e,he,rfl⟩
 obtain⟨x,hx,e2⟩:=List.mem_map.1 this
 rw [←e2];exact hs.1 x hx
theorem Stamp.erase{E:List MapEntry}{clock:Nat}(hs:Stamp E clock)(i:Nat):Stamp (E.eraseIdx i) clock:=
 ⟨fun e he=>hs.1 e ((List.eraseIdx_sublist E i).mem he),hs.2.sublist ((List.eraseIdx_sublist E i).map _)⟩
theorem jb(hs:Sim w0 ρ h w){m:Key}{L:Loc}(hm:ρ m=some L){es:List (AV × AV)}(hg:h.get m=some (.lmap es)):
  ¬ w0.F L.B∧L.B < w.heap.size∧∃ E clock es',w.heap[L.B]?=some (.map E clock)∧(es'.map strip).Perm es∧ERel ρ es' E.toList∧Stamp E.toList clock:=by
 obtain⟨o,ho,hlt,hr⟩:=hs.obj m L hm
 rw [hg] at ho;cases ho
 obtain⟨hN,E,clock,hO,⟨es',hp,hE⟩,hst⟩:=hr
 exact⟨hN,hlt,E,clock,es',hO,hp,hE,hst⟩
theorem oK:∀ {l:List (AV × AV × Key)} {es:List (AV × AV × Nat)},KsRel ρ l es→(es.map fun e=>(e.1,e.2.1))=eI l
 | _,_,.nil=>rfl
 | _,_,.cons k v b L r R h hr=>by
  show (k,v)::(R.map fun e=>(e.1,e.2.1))=(k,v)::eI r
  rw [oK hr]
theorem mU(hs:Sim w0 ρ h w){m:Key}{L:Loc}(hm:ρ m=some L){es:List (AV × AV × Key)}{ck:Key}(hg:h.get m=some (.smap es ck)):
  L.B < w.heap.size∧∃ E clock es',w.heap[L.B]?=some (.map E clock)∧(es'.map strip).Perm (eI es)∧ERel ρ es' E.toList∧Stamp E.toList clock:=by
 obtain⟨o,ho,hlt,hr⟩:=hs.obj m L hm
 rw [hg] at ho;cases ho
 obtain⟨_,E,Lc,_,hO,⟨es',es'',hks,hp,hE⟩,hst⟩:=hr
 refine⟨hlt,E,Lc.base,es',hO,?_,hE,hst⟩
 rw [←oK hks]
 exact hp.map _
theorem gJ(hs:Sim w0 ρ h w){b:Key}{L:Loc}(hb:ρ b=some L){m:Option (Int × AV)}{l n:Nat}(hg:h.get b=some (.umap m l n)):
  ¬ w0.F L.B∧L.B < w.heap.size∧∃ E clock,w.heap[L.B]?=some (.map E clock)∧E.size≤n∧URel ρ m l E.toList:=by
 obtain⟨o,ho,hlt,hr⟩:=hs.obj b L hb
 rw [hg] at ho;cases ho
 obtain⟨hN,E,clock,hO,hn,hE⟩:=hr
 exact⟨hN,hlt,E,clock,hO,hn,hE⟩
theorem Cz{kt:Nat}(hi:intT P kt=true):∃ k,P.underlying kt=some (.int k):=by
 unfold intT at hi
 cases hu:P.underlying kt with
 | none=>rw [hu] at hi;cases hi
 | some d=>cases d with
  | int k=>exact⟨k,rfl⟩
  | _=>rw [hu] at hi;cases hi
theorem Fe{kt:Nat}(hi:intT P kt=true):keyT P kt=true:=by
 obtain⟨k,hk⟩:=Cz hi
 unfold keyT;rw [hk]
theorem qD{kt:Nat}(hi:intT P kt=true)(a b:Int):eqT P h kt (.int .i64 a) (.int .i64 b)=some (bO a b):=by
 obtain⟨k,hk⟩:=Cz hi
 unfold eqT eqA
 rw [hk]
 rfl
def lN(m:Option (Int × AV))(l:Nat)(p:Int × Nat):AV × AV × Nat:=(.int .i64 p.1,yC m l p.1,p.2)
theorem mW{a b:Int}(hne:a≠b):bO a b=false:=by
 cases hq:bO a b with
 | false=>rfl
 | true=>exact absurd ((aX _ _).1 hq) hne
theorem CA{kt:Nat}(hi:intT P kt=true){m:Option (Int × AV)}{l:Nat}{a:Int}{ks:List (Int × Nat)}(hn:a ∉ ks.map (·.1)):cx (eqT P h kt (.int .i64 a)) (ks.map (lN m l))=some none:=by
 refine oH fun e he=>?_
 obtain⟨p,hp,rfl⟩:=List.mem_map.1 he
 show eqT P h kt (.int .i64 a) (.int .i64 p.1)=_
 rw [qD hi,mW (a:=a) (b:=p.1) fun hq=>hn (hq▸List.mem_map.2 ⟨p,hp,rfl⟩)]
theorem Ff{kt:Nat}(hi:intT P kt=true){m:Option (Int × AV)}{l:Nat}{a:Int}{c:Nat}{k1 k2:List (Int × Nat)}(hn:a ∉ k1.map (·.1)):cx (eqT P h kt (.int .i64 a)) ((k1++(a,c)::k2).map (lN m l))=some (some k1.length):=by
 rw [List.map_append,List.map_cons]
 have h1:=rZ (f:=eqT P h kt (.int .i64 a)) (e:=lN m l (a,c)) (b:=k2.map (lN m l)) (a:=k1.map (lN m l)) (by
  show eqT P h kt (.int .i64 a) (.int .i64 a)=_
  rw [qD hi,(aX _ _).2 rfl]) (fun x hx=>by
  obtain⟨p,hp,rfl⟩:=List.mem_map.1 hx
  show eqT P h kt (.int .i64 a) (.int .i64 p.1)=_
  rw [qD hi,mW (a:=a) (b:=p.1) fun hq=>hn (hq▸List.mem_map.2 ⟨p,hp,rfl⟩)])
 rw [List.length_map] at h1
 exact h1
theorem vJ{a:Int}{ks:List (Int × Nat)}(hm:a ∈ ks.map (·.1))(hd:(ks.map (·.1)).Nodup):∃ k1 c k2,ks=k1++(a,c)::k2∧a ∉ k1.map (·.1)∧a ∉ k2.map (·.1):=by
 obtain⟨p,hp,rfl⟩:=List.mem_map.1 hm
 obtain⟨k1,k2,rfl⟩:=List.append_of_mem hp
 rw [List.map_append,List.map_cons,List.nodup_append] at hd
 obtain⟨_,h2,h3⟩:=hd
 exact⟨k1,p.2,k2,rfl,fun hx=>h3 _ hx _ List.mem_cons_self rfl,(List.nodup_cons.1 h2).1⟩
theorem Ek{l:Nat}{v:AV}{V:Value}(hl:Da l v=true)(hv:Rel ρ v V):Rel ρ (.ustr l) V:=by
 cases hv with
 | str n c hc=>
  have:n=l:=Nat.eq_of_beq_eq_true hl
  subst this
  exact .ustr _ _ (aI _ _)
 | ustr n s hn=>
  have:n=l:=Nat.eq_of_beq_eq_true hl
  subst this
  exact .ustr _ _ hn
 | _=>cases hl
theorem kC{m:Option (Int × AV)}{l:Nat}(hm:BJ l m=true){a:Int}{v:AV}:∀ {ks:List (Int × Nat)} {E:List MapEntry},a ∉ ks.map (·.1)→ERel ρ (ks.map (lN m l)) E→ERel ρ (ks.map (lN (some (a,v)) l)) E
 | [],_,_,he=>by cases he;exact .nil
 | p::r,_,hn,he=>by
  have h1:p.1≠a:=fun e=>hn (by rw [List.map_cons,e];exact List.mem_cons_self)
  have h2:a ∉ r.map (·.1):=fun e=>hn (List.mem_cons_of_mem _ e)
  cases he with
  | cons _ _ K V c _ R hk hv hr=>
   refine .cons _ _ K V _ _ R hk ?_ (kC hm h2 hr)
   show Rel ρ (if p.1=a then v else .ustr l) V
   rw [if_neg h1]
   have hv:Rel ρ (yC m l p.1) V:=hv
   cases m with
   | none=>exact hv
   | some q=>
    have hv:Rel ρ (if p.1=q.1 then q.2 else .ustr l) V:=hv
    split at hv
    ·exact Ek hm hv
    ·exact hv
theorem ERel.split{a b:List (AV × AV × Nat)}:∀ {E:List MapEntry},ERel ρ (a++b) E→∃ A B,E=A++B∧ERel ρ a A∧ERel ρ b B:=by
 induction a with
 | nil=>exact fun he=>⟨[],_,rfl,.nil,he⟩
 | cons x r ih=>
  intro E he
  cases he with
  | cons k v K V c _ R hk hv hr=>
   obtain⟨A,B,rfl,h1,h2⟩:=ih hr
   exact⟨_::A,B,rfl,.cons k v K V c _ A hk hv h1,h2⟩
end
end Go.VM
namespace Go.VM
section
variable {P:Program} {w0:Base} {ρ:Rho} {h:Heap} {w:World}
theorem eM(hs:Sim w0 ρ h w){m:Key}{L:Loc}(hm:ρ m=some L){es:List (AV × AV × Nat)}{clock:Nat}(hg:h.get m=some (.map es clock)):
  ¬ w0.F L.B∧L.B < w.heap.size∧∃ E,w.heap[L.B]?=some (.map E clock)∧ERel ρ es E.toList:=by
 obtain⟨o,ho,hlt,hr⟩:=hs.obj m L hm
 rw [hg] at ho;cases ho
 obtain⟨hN,E,hO,hE⟩:=hr
 exact⟨hN,hlt,E,hO,hE⟩
theorem ij(hP:TypesOk P)(hs:Sim w0 ρ h w){kt et:Nat}{es:List (AV × AV × Nat)}{E:Array MapEntry}{k:AV}{K:Value}{cok:Bool}(hkt:keyT P kt=true)(hk:Rel ρ k K)(hE:ERel ρ es E.toList){s:Sem Value}
  (hyes:∀ i V,(Instr.findKey kt K E.toList).run P w=.ok (some (i,V)) w→s.run P w=.ok (if cok then .tuple #[V,.bool true] else V) w)
  (hno:∀ Z,(Instr.findKey kt K E.toList).run P w=.ok none w→(zeroValue et).run P w=.ok Z w→s.run P w=.ok (if cok then .tuple #[Z,.bool false] else Z) w):
  ValOk P w0 ρ h w s (ct P kt et es k cok h):=by
 unfold ct
 cases hf:dm P h kt k es with
 | none=>exact trivial
 | some r=>
  obtain⟨p,hp,hr⟩:=mz hf
  have hfind:=c6 hP hs hkt hk hE hp
  cases r with
  | some v=>
   dsimp only
   cases p with
   | none=>simp at hr
   | some i=>
    simp only [Option.bind_some] at hr
    cases he:es[i]? with
    | none=>simp [he] at hr
    | some e=>
     simp [he] at hr
     obtain⟨K',V',hE',_,hv⟩:=hE.get? i he
     have hent:aP E.toList 0 (some i)=some (0+i,V'):=by simp [aP] at hE' ⊢;simp [hE']
     rw [hent] at hfind
     have:=hyes _ V' hfind
     subst hr
     cases cok
     ·exact au hs hv this
     ·exact au hs (.tup _ [V',.bool true] (.cons _ _ _ _ hv (.cons _ _ _ _ (.bool true) .nil))) this
  | none=>
   dsimp only
   have hent:aP E.toList 0 p=none:=by
    cases p with
    | none=>rfl
    | some i=>
     simp only [Option.bind_some] at hr
     have:es[i]?=none:=by
      cases he:es[i]? with
      | none=>rfl
      | some e=>simp [he] at hr
     have h2:E.toList[i]?=none:=by
      rw [List.getElem?_eq_none_iff] at this ⊢;rw [hE.length];exact this
     simp [aP] at h2 ⊢;simp [h2]
   rw [hent] at hfind
   cases hz:bK P et with
   | none=>exact trivial
   | some z=>
    obtain⟨Z,hzr,ho⟩:=cz (w:=w) hz
    have:=hno Z hfind hzr
    have hzr':=cT ρ Z z ho
    cases cok
    ·exact au hs hzr' this
    ·exact au hs (.tup _ [Z,.bool false] (.cons _ _ _ _ hzr' (.cons _ _ _ _ (.bool false) .nil))) this
theorem jZ(hs:Sim w0 ρ h w){kt et:Nat}{es':List (AV × AV × Nat)}{E:Array MapEntry}{k:AV}{K:Value}{cok:Bool}{p:Option Nat}{r:Option AV}(hP:TypesOk P)(hkt:keyT P kt=true)(hk:Rel ρ k K)(hE:ERel ρ es' E.toList)
  (hp:cx (eqT P h kt k) es'=some p) (hr:r=p.bind fun i=>(es'[i]?).map (·.2.1)) {s:Sem Value}
  (hyes:∀ i V,(Instr.findKey kt K E.toList).run P w=.ok (some (i,V)) w→s.run P w=.ok (if cok then .tuple #[V,.bool true] else V) w)
  (hno:∀ Z,(Instr.findKey kt K E.toList).run P w=.ok none w→(zeroValue et).run P w=.ok Z w→s.run P w=.ok (if cok then .tuple #[Z,.bool false] else Z) w):
  ValOk P w0 ρ h w s (match r with
    | some v=>.val (cond cok (.tup [v,.bool true]) v) h
    | none=>(match bK P et with
     | some z=>.val (cond cok (.tup [z,.bool false]) z) h
     | none=>.bad "lookup zero")):=by
 have hfind:=c6 hP hs hkt hk hE hp
 cases r with
 | some v=>
  dsimp only
  cases p with
  | none=>simp at hr
  | some i=>
   simp only [Option.bind_some] at hr
   cases he:es'[i]? with
   | none=>simp [he] at hr
   | some e=>
    simp [he] at hr
    obtain⟨K',V',hE',_,hv⟩:=hE.get? i he
    have hent:aP E.toList 0 (some i)=some (0+i,V'):=by simp [aP] at hE' ⊢;simp [hE']
    rw [hent] at hfind
    have:=hyes _ V' hfind
    subst hr
    cases cok
    ·exact au hs hv this
    ·exact au hs (.tup _ [V',.bool true] (.cons _ _ _ _ hv (.cons _ _ _ _ (.bool true) .nil))) this
 | none=>
  dsimp only
  have hent:aP E.toList 0 p=none:=by
   cases p with
   | none=>rfl
   | some i=>
    simp only [Option.bind_some] at hr
    have:es'[i]?=none:=by
     cases he:es'[i]? with
     | none=>rfl
     | some e=>simp [he] at hr
    have h2:E.toList[i]?=none:=by
     rw [List.getElem?_eq_none_iff] at this ⊢;rw [hE.length];exact this
    simp [aP] at h2 ⊢;simp [h2]
  rw [hent] at hfind
  cases hz:bK P et with
  | none=>exact trivial
  | some z=>
   obtain⟨Z,hzr,ho⟩:=cz (w:=w) hz
   have:=hno Z hfind hzr
   have hzr':=cT ρ Z z ho
   cases cok
   ·exact au hs hzr' this
   ·exact au hs (.tup _ [Z,.bool false] (.cons _ _ _ _ hzr' (.cons _ _ _ _ (.bool false) .nil))) this
theorem pG(hP:TypesOk P)(hs:Sim w0 ρ h w){kt et:Nat}{es:List (AV × AV)}{es':List (AV × AV × Nat)}{E:Array MapEntry}{k:AV}{K:Value}{cok:Bool}(hkt:keyT P kt=true)(hk:Rel ρ k K)(hp:(es'.map strip).Perm es)(hE:ERel ρ es' E.toList){s:Sem Value}
  (hyes:∀ i V,(Instr.findKey kt K E.toList).run P w=.ok (some (i,V)) w→s.run P w=.ok (if cok then .tuple #[V,.bool true] else V) w)
  (hno:∀ Z,(Instr.findKey kt K E.toList).run P w=.ok none w→(zeroValue et).run P w=.ok Z w→s.run P w=.ok (if cok then .tuple #[Z,.bool false] else Z) w):
  ValOk P w0 ρ h w s (gV P kt et es k cok h):=by
 unfold gV
 cases hf:wq P h kt k es with
 | none=>exact trivial
 | some r=>
  rcases rY hf with ⟨rfl,hn⟩ | ⟨a,e,b,rfl,rfl,hsole⟩
  ·exact jZ (r:=none) hs hP hkt hk hE (oI hp hn) rfl hyes hno
  ·obtain⟨a',e',b',rfl,he,_,hpos⟩:=oJ hp hsole
   refine jZ (r:=some e.2) hs hP hkt hk hE hpos ?_ hyes hno
   rw [←he]
   simp [strip]
theorem AM{x y:Option AV}(h:qP x y=true):x=y:=by
 unfold qP at h
 split at h
 ·rfl
 ·simp only [Bool.and_eq_true] at h
  rw [(Key.same_iff _ _).1 h.1,Nat.eq_of_beq_eq_true h.2]
 ·cases h
theorem mA{kt:Nat}{k:AV}{r:Option AV}:∀ {vs:List (List (AV × AV × Nat) × Nat)},qQ P kt k h r vs=true→∀ v ∈ vs,dm P h kt k v.1=some r
 | [],_,v,hv=>by cases hv
 | x::vs,ha,v,hv=>by
  unfold qQ at ha
  split at ha
  ·rename_i r' hr'
   cases hb:qP r r' with
   | false=>rw [hb] at ha;cases ha
   | true=>
    rw [hb] at ha
    cases hv with
    | head=>rw [hr',AM hb]
    | tail _ hv=>exact mA ha v hv
  ·cases ha
theorem ym(hP:TypesOk P)(hs:Sim w0 ρ h w){kt et:Nat}{vs:List (List (AV × AV × Nat) × Nat)}{v:List (AV × AV × Nat) × Nat}{E:Array MapEntry}{k:AV}{K:Value}{cok:Bool}(hkt:keyT P kt=true)(hk:Rel ρ k K)(hv:v ∈ vs)(hE:ERel ρ v.1 E.toList){s:Sem Value}
  (hyes:∀ i V,(Instr.findKey kt K E.toList).run P w=.ok (some (i,V)) w→s.run P w=.ok (if cok then .tuple #[V,.bool true] else V) w)
  (hno:∀ Z,(Instr.findKey kt K E.toList).run P w=.ok none w→(zeroValue et).run P w=.ok Z w→s.run P w=.ok (if cok then .tuple #[Z,.bool false] else Z) w):
  ValOk P w0 ρ h w s (jF P kt et vs k cok h):=by
 unfold jF
 cases vs with
 | nil=>cases hv
 | cons x r=>
  dsimp only
  cases hf:dm P h kt k x.1 with
  | none=>exact trivial
  | some o=>
   dsimp only
   refine aa (fun ha=>?_) (fun _=>trivial)
   have hfv:=mA ha v hv
   have hx:ct P kt et x.1 k cok h=ct P kt et v.1 k cok h:=by unfold ct;rw [hf,hfv]
   rw [hx]
   exact ij hP hs hkt hk hE hyes hno
theorem rf(hP:TypesOk P)(hs:Sim w0 ρ h w){t:Nat}{m k:AV}{M K:Value}{cok:Bool}(hm:Rel ρ m M)(hk:Rel ρ k K):ValOk P w0 ρ h w (Instr.lookup t M K cok) (iN P t m k cok h):=by
 unfold iN
 cases hu:P.underlying t with
 | none=>exact trivial
 | some d=>
  cases d with
  | map kt et=>
   dsimp only
   refine aa (fun hkt=>?_) (fun _=>trivial)
   cases hm with
   | nilMap=>
    refine ij (E:=#[]) hP hs hkt hk .nil ?_ ?_
    ·intro i V hr
     simp only [Instr.lookup,Sem.run_bind,a8 hu,Result.andThen_ok,Sem.run_pure,aA hkt,hr]
    ·intro Z hr hz
     simp only [Instr.lookup,Sem.run_bind,a8 hu,Result.andThen_ok,Sem.run_pure,aA hkt,hr,hz]
   | map b L hb=>
    dsimp only
    cases hg:h.get b with
    | none=>exact trivial
    | some o=>
     cases o with
     | map es clock=>
      obtain⟨_,_,E,hO,hE⟩:=eM hs hb hg
      refine ij (E:=E) hP hs hkt hk hE ?_ ?_
      ·intro i V hr
       simp only [Instr.lookup,Sem.run_bind,a8 hu,Result.andThen_ok,ai hO (by simp),Sem.run_pure,aA hkt,hr]
      ·intro Z hr hz
       simp only [Instr.lookup,Sem.run_bind,a8 hu,Result.andThen_ok,ai hO (by simp),Sem.run_pure,aA hkt,hr,hz]
     | lmap es=>
      obtain⟨_,_,E,clock,es',hO,hp,hE,_⟩:=jb hs hb hg
      refine pG (E:=E) hP hs hkt hk hp hE ?_ ?_
      ·intro i V hr
       simp only [Instr.lookup,Sem.run_bind,a8 hu,Result.andThen_ok,ai hO (by simp),Sem.run_pure,aA hkt,hr]
      ·intro Z hr hz
       simp only [Instr.lookup,Sem.run_bind,a8 hu,Result.andThen_ok,ai hO (by simp),Sem.run_pure,aA hkt,hr,hz]
     | smap es ck=>
      obtain⟨_,E,clock,es',hO,hp,hE,_⟩:=mU hs hb hg
      refine pG (E:=E) hP hs hkt hk hp hE ?_ ?_
      ·intro i V hr
       simp only [Instr.lookup,Sem.run_bind,a8 hu,Result.andThen_ok,ai hO (by simp),Sem.run_pure,aA hkt,hr]
      ·intro Z hr hz
       simp only [Instr.lookup,Sem.run_bind,a8 hu,Result.andThen_ok,ai hO (by simp),Sem.run_pure,aA hkt,hr,hz]
     | mapAlt vs=>
      obtain⟨o,ho,_,hr⟩:=hs.obj b L hb
      rw [hg] at ho;cases ho
      obtain⟨_,v,hv,E,hO,hE⟩:=hr
      refine ym (E:=E) hP hs hkt hk hv hE ?_ ?_
      ·intro i V hr
       simp only [Instr.lookup,Sem.run_bind,a8 hu,Result.andThen_ok,ai hO (by simp),Sem.run_pure,aA hkt,hr]
      ·intro Z hr hz
       simp only [Instr.lookup,Sem.run_bind,a8 hu,Result.andThen_ok,ai hO (by simp),Sem.run_pure,aA hkt,hr,hz]
     | _=>exact trivial
   | _=>exact trivial
  | _=>exact trivial
theorem aR{B:Nat}{O O':Obj}(hO:w.heap[B]?=some O)(hne:∀ C e q,O≠.cells C e q):(setObj B O').run P w=.ok () (al w B O'):=by
 unfold setObj
 cases O<;>first | (exact absurd rfl (hne _ _ _)) | (simp [Sem.run,hO,al])
theorem mB(hs:Sim w0 ρ h w){m:Key}{L:Loc}(hm:ρ m=some L){es es':List (AV × AV × Nat)}{E':Array MapEntry}{clock clock':Nat}(hg:h.get m=some (.map es clock))(hE':ERel ρ es' E'.toList):
  Sim w0 ρ (h.put m (.map es' clock')) (al w L.B (.map E' clock')):=by
 obtain⟨hN,hlt,E,hO,hE⟩:=eM hs hm hg
 exact hs.put hm hg rfl hN rfl rfl (by simp [al]) (fun k hk=>aO hk) (aV hlt) ⟨hN,E',rfl,hE'⟩
theorem mC(hs:Sim w0 ρ h w){m:Key}{L:Loc}(hm:ρ m=some L){es es2:List (AV × AV)}{es':List (AV × AV × Nat)}{E':Array MapEntry}{clock':Nat}(hg:h.get m=some (.lmap es))(hp:(es'.map strip).Perm es2)(hE':ERel ρ es' E'.toList)(hst:Stamp E'.toList clock'):
  Sim w0 ρ (h.put m (.lmap es2)) (al w L.B (.map E' clock')):=by
 obtain⟨hN,hlt,E,clock,_,hO,_,_,_⟩:=jb hs hm hg
 exact hs.put hm hg rfl hN rfl rfl (by simp [al]) (fun k hk=>aO hk) (aV hlt) ⟨hN,E',clock',rfl,⟨es',hp,hE'⟩,hst⟩
theorem ey(E:Array MapEntry)(i:Nat)(f:MapEntry→MapEntry):(E.modify i f).toList=E.toList.modify i f:=by
 simp
theorem ik(E:Array MapEntry)(i:Nat):(E.eraseIdxIfInBounds i).toList=E.toList.eraseIdx i:=by
 unfold Array.eraseIdxIfInBounds
 split
 ·simp
 ·rename_i hn
  rw [List.eraseIdx_of_length_le (by simp;omega)]
theorem wG{f:AV→Option Bool}:∀ {es:List (AV × AV × Nat)} {i:Nat} {e:AV × AV × Nat},cx f es=some (some i)→es[i]?=some e→f e.1=some true
 | [],i,e,hp,_=>by simp [cx] at hp
 | (k',v,c)::es,i,e,hp,he=>by
  unfold cx at hp
  cases hq:f k' with
  | none=>simp [hq] at hp
  | some b=>
   cases b with
   | true=>simp [hq] at hp;subst hp;simp at he;subst he;exact hq
   | false=>
    simp only [hq] at hp
    cases hr:cx f es with
    | none=>simp [hr] at hp
    | some p=>
     simp [hr] at hp
     cases p with
     | none=>simp at hp
     | some j=>simp at hp;subst hp;simp at he;exact wG hr he
theorem yn(hs:Sim w0 ρ h w){b:Key}{L:Loc}(hb:ρ b=some L){m m':Option (Int × AV)}{l n n':Nat}{E':Array MapEntry}{clock':Nat}(hg:h.get b=some (.umap m l n))(hn:E'.size≤n')(hE':URel ρ m' l E'.toList):
  Sim w0 ρ (h.put b (.umap m' l n')) (al w L.B (.map E' clock')):=by
 obtain⟨hN,hlt,E,clock,hO,_,_⟩:=gJ hs hb hg
 exact hs.put hb hg rfl hN rfl rfl (by simp [al]) (fun k hk=>aO hk) (aV hlt) ⟨hN,E',clock',rfl,hn,hE'⟩
theorem AO(hs:Sim w0 ρ h w){b:Key}{L:Loc}(hb:ρ b=some L){m:Option (Int × AV)}{l n:Nat}(hg:h.get b=some (.umap m l n))(clock:Nat):
  Sim w0 ρ (h.put b (.lmap [])) (al w L.B (.map #[] clock)):=by
 obtain⟨hN,hlt,E,_,hO,_,_⟩:=gJ hs hb hg
 exact hs.put hb hg rfl hN rfl rfl (by simp [al]) (fun k hk=>aO hk) (aV hlt) ⟨hN,#[],clock,rfl,⟨[],.nil,.nil⟩,fun _ h=>by simp at h,by simp⟩
theorem Hr(hP:TypesOk P)(hs:Sim w0 ρ h w){t kt et:Nat}(hu:P.underlying t=some (.map kt et))(hkt:keyT P kt=true){b:Key}{L:Loc}(hb:ρ b=some L){m:Option (Int × AV)}{l n:Nat}(hg:h.get b=some (.umap m l n)){k v:AV}{K V:Value}(hk:Rel ρ k K)(hv:Rel ρ v V):
  oG P w0 ρ h w (Instr.mapUpdate t (.map (some L.B)) K V) (Jp P kt m l n b k v h):=by
 obtain⟨_,hlt,E,clock,hO,hsz,ks,hd,hm,hE⟩:=gJ hs hb hg
 unfold Jp
 split
 ·rename_i a
  cases hc:and (intT P kt) (and (Da l v) (BJ l m)) with
  | false=>exact trivial
  | true=>
   simp only [Bool.and_eq_true] at hc
   obtain⟨hi,hlv,hlm⟩:=hc
   rw [cond_true,af]
   have hE:ERel ρ (ks.map (lN m l)) E.toList:=hE
   by_cases ha:a ∈ ks.map (·.1)
   ·obtain⟨k1,c,k2,rfl,h1,h2⟩:=vJ ha hd
    have hpos:cx (eqT P h kt (.int .i64 a)) ((k1++(a,c)::k2).map (lN m l))=some (some k1.length):=Ff hi h1
    have hfind:=c6 hP hs hkt hk hE hpos
    obtain⟨K',V',hE',hk',hv'⟩:=hE.get? k1.length (e:=lN m l (a,c)) (by simp)
    have hEi:E[k1.length]?=some { key:=K',val:=V',born:=c }:=by simpa [lN] using hE'
    have hent:aP E.toList 0 (some k1.length)=some (k1.length,V'):=by simp [aP,hEi]
    rw [hent] at hfind
    refine⟨rfl,ρ,_,Sub.refl _,aK hb,yn hs hb hg (E':=E.modify k1.length fun e=>{ e with key:=K,val:=V }) (clock':=clock) (by simp;omega) ⟨k1++(a,c)::k2,hd,fun p hp=>by cases hp;exact ha,?_⟩,?_⟩
    ·show ERel ρ ((k1++(a,c)::k2).map (lN (some (a,v)) l)) _
     rw [ey]
     rw [List.map_append,List.map_cons] at hE
     obtain⟨A,B,hAB,hA,hB⟩:=hE.split
     cases hB with
     | cons _ _ K2 V2 c2 _ R hk2 hv2 hR=>
      have hlen:A.length=k1.length:=by rw [hA.length,List.length_map]
      rw [hAB,←hlen,lM,List.map_append,List.map_cons]
      refine (kC hlm h1 hA).append (.cons _ _ K V _ _ _ hk ?_ (kC hlm h2 hR))
      show Rel ρ (if a=a then v else .ustr l) V
      rw [if_pos rfl];exact hv
    ·have hsame:Instr.sameBits 10000 K' K=true:=by
      obtain⟨d,hd,hc⟩:=eX hkt
      have hq:eqT P h kt (.int .i64 a) (.int .i64 a)=some true:=by rw [qD hi,(aX _ _).2 rfl]
      rcases hc with hn | ⟨el,hel⟩
      ·exact (ii hP hs hk hk' hq d hd).2.2.2 hn rfl 10000
      ·exact ((ii hP hs hk hk' hq d hd).2.2.1 el hel).2 rfl 10000
     simp only [Instr.mapUpdate,Sem.run_bind,a8 hu,Result.andThen_ok,ai hO (by simp),aA hkt,hfind,hEi,Option.map_some,Option.getD_some,Instr.keyThatStays,hsame,if_true,Sem.run_pure,aR hO (by simp)]
   ·have hfind:=c6 hP hs hkt hk hE (CA hi ha)
    have hent:aP E.toList 0 none=none:=rfl
    rw [hent] at hfind
    refine⟨rfl,ρ,_,Sub.refl _,aK hb,yn hs hb hg (E':=E.push { key:=K,val:=V,born:=clock }) (clock':=clock+1) (by simp;omega) ⟨ks++[(a,clock)],?_,fun p hp=>by cases hp;simp,?_⟩,?_⟩
    ·rw [List.map_append,List.nodup_append]
     refine⟨hd,by simp,fun x hx y hy=>?_⟩
     obtain rfl:y=a:=by simpa using hy
     exact fun e=>ha (e▸hx)
    ·show ERel ρ ((ks++[(a,clock)]).map (lN (some (a,v)) l)) _
     rw [List.map_append,Array.toList_push]
     refine (kC hlm ha hE).append (.cons _ _ K V _ _ _ hk ?_ .nil)
     show Rel ρ (if a=a then v else .ustr l) V
     rw [if_pos rfl];exact hv
    ·simp only [Instr.mapUpdate,Sem.run_bind,a8 hu,Result.andThen_ok,ai hO (by simp),aA hkt,hfind,aR hO (by simp)]
 ·exact trivial
theorem lf(hP:TypesOk P)(hs:Sim w0 ρ h w){t:Nat}{m k v:AV}{M K V:Value}(hm:Rel ρ m M)(hk:Rel ρ k K)(hv:Rel ρ v V):oG P w0 ρ h w (Instr.mapUpdate t M K V) (iO P t m k v h):=by
 unfold iO
 cases hu:P.underlying t with
 | none=>exact trivial
 | some d=>
  cases d with
  | map kt et=>
   cases hm with
   | map b L hb=>
    dsimp only
    cases hkt:keyT P kt with
    | false=>exact trivial
    | true=>
     simp only [cond_true]
     cases hg:h.get b with
     | none=>exact trivial
     | some o=>
      cases o with
      | map es clock=>
       obtain⟨_,hlt,E,hO,hE⟩:=eM hs hb hg
       dsimp only
       cases hset:iK P h kt k v clock es with
       | none=>exact trivial
       | some x=>
        obtain⟨es',nw⟩:=x
        obtain⟨p,hp,hm⟩:=pD hset
        have hfind:=c6 hP hs hkt hk hE hp
        cases p with
        | none=>
         obtain⟨rfl,rfl⟩:=hm
         refine⟨rfl,ρ,_,Sub.refl _,aK hb,mB hs hb hg (E':=E.push { key:=K,val:=V,born:=clock }) (by simpa using hE.append (.cons k v K V clock _ _ hk hv .nil)),?_⟩
         have hent:aP E.toList 0 none=none:=rfl
         rw [hent] at hfind
         simp only [Instr.mapUpdate,Sem.run_bind,a8 hu,Result.andThen_ok,ai hO (by simp),aA hkt,hfind,aR hO (by simp)]
        | some i=>
         obtain⟨rfl,hi,rfl⟩:=hm
         have hlen:=hE.length
         have hi':i < E.size:=by simp at hlen;omega
         obtain⟨e,he⟩:∃ e,es[i]?=some e:=⟨_,List.getElem?_eq_getElem hi⟩
         obtain⟨K',V',hE',hk',hv'⟩:=hE.get? i he
         have hEi:E[i]?=some { key:=K',val:=V',born:=e.2.2 }:=by simpa using hE'
         have hent:aP E.toList 0 (some i)=some (i,V'):=by simp [aP,hEi]
         rw [hent] at hfind
         refine⟨rfl,ρ,_,Sub.refl _,aK hb,mB hs hb hg (E':=E.modify i fun e=>{ e with key:=K,val:=V }) (by rw [ey];exact ERel.modify hk hv i hE),?_⟩
         have hsame:Instr.sameBits 10000 K' K=true:=by
          obtain⟨d,hd,hc⟩:=eX hkt
          have hq:eqT P h kt k e.1=some true:=wG hp he
          rcases hc with hn | ⟨el,hel⟩
          ·exact (ii hP hs hk hk' hq d hd).2.2.2 hn rfl 10000
          ·exact ((ii hP hs hk hk' hq d hd).2.2.1 el hel).2 rfl 10000
         simp only [Instr.mapUpdate,Sem.run_bind,a8 hu,Result.andThen_ok,ai hO (by simp),aA hkt,hfind,hEi,Option.map_some,Option.getD_some,Instr.keyThatStays,hsame,if_true,Sem.run_pure,aR hO (by simp)]
      | lmap es=>
       obtain⟨_,hlt,E,clock,es',hO,hperm,hE,hst⟩:=jb hs hb hg
       dsimp only
       cases hset:EA P h kt k v es with
       | none=>exact trivial
       | some x=>
        obtain⟨es2,nw⟩:=x
        rcases vG hset with ⟨_,rfl,hn⟩ | ⟨a,e,b2,rfl,_,rfl,hsole⟩
        ·have hfind:=c6 hP hs hkt hk hE (oI hperm hn)
         have hent:aP E.toList 0 none=none:=rfl
         rw [hent] at hfind
         refine⟨rfl,ρ,_,Sub.refl _,aK hb,mC hs hb hg (es':=es'++[(k,v,clock)]) (E':=E.push { key:=K,val:=V,born:=clock }) (clock':=clock+1) ?_ (by simpa using hE.append (.cons k v K V clock _ _ hk hv .nil)) (by simpa using hst.push K V),?_⟩
         ·rw [List.map_append];exact hperm.append_right _
         ·simp only [Instr.mapUpdate,Sem.run_bind,a8 hu,Result.andThen_ok,ai hO (by simp),aA hkt,hfind,aR hO (by simp)]
        ·obtain⟨a',e',b',rfl,he,hp2,hpos⟩:=oJ hperm hsole
         have hfind:=c6 hP hs hkt hk hE hpos
         have hlen:=hE.length
         have hi':a'.length < E.size:=by simp at hlen;omega
         have he':(a'++e'::b')[a'.length]?=some e':=by simp
         obtain⟨K',V',hE',hk',hv'⟩:=hE.get? a'.length he'
         have hEi:E[a'.length]?=some { key:=K',val:=V',born:=e'.2.2 }:=by simpa using hE'
         have hent:aP E.toList 0 (some a'.length)=some (a'.length,V'):=by simp [aP,hEi]
         rw [hent] at hfind
         refine⟨rfl,ρ,_,Sub.refl _,aK hb,mC hs hb hg (es':=(a'++e'::b').modify a'.length fun e=>(k,v,e.2.2)) (E':=E.modify a'.length fun e=>{ e with key:=K,val:=V }) (clock':=clock) ?_ (by rw [ey];exact ERel.modify hk hv a'.length hE) (by rw [ey];exact hst.modify K V a'.length),?_⟩
         ·have:(a'++e'::b').modify a'.length (fun e=>(k,v,e.2.2))=a'++(k,v,e'.2.2)::b':=by
           exact lM _ _ _ _
          rw [this,List.map_append,List.map_cons]
          refine List.perm_middle.trans (List.Perm.trans ?_ List.perm_middle.symm)
          rw [List.map_append] at hp2
          exact hp2.cons _
         ·have hsame:Instr.sameBits 10000 K' K=true:=by
           obtain⟨d,hd,hc⟩:=eX hkt
           have hq:eqT P h kt k e'.1=some true:=wG hpos he'
           rcases hc with hn | ⟨el,hel⟩
           ·exact (ii hP hs hk hk' hq d hd).2.2.2 hn rfl 10000
           ·exact ((ii hP hs hk hk' hq d hd).2.2.1 el hel).2 rfl 10000
          simp only [Instr.mapUpdate,Sem.run_bind,a8 hu,Result.andThen_ok,ai hO (by simp),aA hkt,hfind,hEi,Option.map_some,Option.getD_some,Instr.keyThatStays,hsame,if_true,Sem.run_pure,aR hO (by simp)]
      | umap m l n=>exact Hr hP hs hu hkt hb hg hk hv
      | _=>exact trivial
   | _=>exact trivial
  | _=>exact trivial
end
end Go.VM
namespace Go.VM
section
variable {P:Program} {w0:Base} {ρ:Rho} {h:Heap} {w:World}
theorem Cr{f:AV→Option Bool}:∀ {es:List (AV × AV × Nat)} {i:Nat},cx f es=some (some i)→es[i]?=none→False
 | [],i,hp,_=>by simp [cx] at hp
 | (k',v,c)::es,i,hp,he=>by
  unfold cx at hp
  cases hq:f k' with
  | none=>simp [hq] at hp
  | some b=>
   cases b with
   | true=>simp [hq] at hp;subst hp;simp at he
   | false=>
    simp only [hq] at hp
    cases hr:cx f es with
    | none=>simp [hr] at hp
    | some p=>
     simp [hr] at hp
     cases p with
     | none=>simp at hp
     | some j=>simp at hp;subst hp;simp at he;exact Cr hr (by simpa using he)
theorem AQ(hP:TypesOk P)(hs:Sim w0 ρ h w){t ty:Nat}{ts:Array Nat}{m k:AV}{M K:Value}(ht:ts[0]?=some t)(hm:Rel ρ m M)(hk:Rel ρ k K):ValOk P w0 ρ h w (Builtin.delete_ ts ty #[M,K]) (xD P t m k h):=by
 unfold xD
 cases hm with
 | nilMap=>
  dsimp only
  cases hu:P.underlying t with
  | none=>exact trivial
  | some d=>
   cases d with
   | map kt et=>
    dsimp only
    refine aa (fun hkt=>?_) (fun _=>trivial)
    refine au hs .undef ?_
    simp only [Builtin.delete_,ht]
    simp [a8 hu,aA hkt]
   | _=>exact trivial
 | map b L hb=>
  dsimp only
  cases hu:P.underlying t with
  | none=>exact trivial
  | some d=>
   cases d with
   | map kt et=>
    dsimp only
    refine aa (fun hkt=>?_) (fun _=>trivial)
    cases hg:h.get b with
    | none=>exact trivial
    | some o=>
     cases o with
     | map es clock=>
      obtain⟨_,hlt,E,hO,hE⟩:=eM hs hb hg
      dsimp only
      cases hd:iL P h kt k es with
      | none=>exact trivial
      | some es'=>
       obtain⟨p,hp,rfl⟩:=pE hd
       have hfind:=c6 hP hs hkt hk hE hp
       cases p with
       | none=>
        refine⟨ρ,.tuple #[],_,Sub.refl _,aK hb,mB hs hb hg (E':=E) hE,.undef,?_⟩
        have hent:aP E.toList 0 none=none:=rfl
        rw [hent] at hfind
        simp [Builtin.delete_,ht,a8 hu,ai hO (by simp),aA hkt,hfind,aR hO (by simp)]
       | some i=>
        refine⟨ρ,.tuple #[],_,Sub.refl _,aK hb,mB hs hb hg (E':=E.eraseIdxIfInBounds i) (by rw [ik];exact hE.eraseIdx i),.undef,?_⟩
        have hi:∃ e,E[i]?=some e:=by
         cases he:E[i]? with
         | some e=>exact⟨e,rfl⟩
         | none=>
          exfalso
          have:es[i]?=none:=by
           rw [List.getElem?_eq_none_iff];have:=hE.length;simp at he this;omega
          exact Cr hp this
        obtain⟨e,he⟩:=hi
        have hent:aP E.toList 0 (some i)=some (i,e.val):=by simp [aP,he]
        rw [hent] at hfind
        simp [Builtin.delete_,ht,a8 hu,ai hO (by simp),aA hkt,hfind,aR hO (by simp)]
     | lmap es=>
      obtain⟨_,hlt,E,clock,es',hO,hperm,hE,hst⟩:=jb hs hb hg
      dsimp only
      cases hd:EB P h kt k es with
      | none=>exact trivial
      | some es2=>
       rcases vH hd with ⟨rfl,hn⟩ | ⟨a,e,b2,rfl,rfl,hsole⟩
       ·have hfind:=c6 hP hs hkt hk hE (oI hperm hn)
        have hent:aP E.toList 0 none=none:=rfl
        rw [hent] at hfind
        refine⟨ρ,.tuple #[],_,Sub.refl _,aK hb,mC hs hb hg (E':=E) (clock':=clock) hperm hE hst,.undef,?_⟩
        simp [Builtin.delete_,ht,a8 hu,ai hO (by simp),aA hkt,hfind,aR hO (by simp)]
       ·obtain⟨a',e',b',rfl,he,hp2,hpos⟩:=oJ hperm hsole
        have hfind:=c6 hP hs hkt hk hE hpos
        have hlen:=hE.length
        have hi':a'.length < E.size:=by simp at hlen;omega
        obtain⟨x,hx⟩:∃ x,E[a'.length]?=some x:=⟨_,Array.getElem?_eq_getElem hi'⟩
        have hent:aP E.toList 0 (some a'.length)=some (a'.length,x.val):=by simp [aP,hx]
        rw [hent] at hfind
        refine⟨ρ,.tuple #[],_,Sub.refl _,aK hb,mC hs hb hg (es':=(a'++e'::b').eraseIdx a'.length) (E':=E.eraseIdxIfInBounds a'.length) (clock':=clock) ?_ (by rw [ik];exact hE.eraseIdx a'.length) (by rw [ik];exact hst.erase a'.length),.undef,?_⟩
        ·have:(a'++e'::b').eraseIdx a'.length=a'++b':=by
          exact vI _ _ _
         rw [this];exact hp2
        ·simp [Builtin.delete_,ht,a8 hu,ai hO (by simp),aA hkt,hfind,aR hO (by simp)]
     | _=>exact trivial
   | _=>exact trivial
 | _=>exact trivial
theorem Hs(hs:Sim w0 ρ h w){t ty:Nat}{ts:Array Nat}{x:AV}{X:Value}(ht:ts[0]?=some t)(hx:Rel ρ x X):ValOk P w0 ρ h w (Builtin.len_ ts ty #[X]) (zM P t x h):=by
 unfold zM
 cases hu:P.underlying t with
 | none=>exact trivial
 | some d=>
  cases d with
  | string=>cases hx with
   | str l c hc=>exact au hs (.int .i64 _) (by simp [Builtin.len_,ht,a8 hu,aI,goInt])
   | ustr l s hl=>exact au hs (.int .i64 _) (by simp [Builtin.len_,ht,a8 hu,hl,goInt])
   | _=>exact trivial
  | slice e=>cases hx with
   | nilSlice=>exact au hs (.int .i64 _) (by simp [Builtin.len_,ht,a8 hu,goInt])
   | emptyS a c=>exact au hs (.int .i64 _) (by simp [Builtin.len_,ht,a8 hu,goInt])
   | sliceIs b off len c L hb=>exact au hs (.int .i64 _) (by simp [Builtin.len_,ht,a8 hu,goInt])
   | sliceMore b off len c sz L hb h1 h2=>exact au hs (.int .i64 _) (by simp [Builtin.len_,ht,a8 hu,goInt])
   | _=>exact trivial
  | map kt et=>cases hx with
   | nilMap=>exact au hs (.int .i64 _) (by simp [Builtin.len_,ht,a8 hu,goInt])
   | map b L hb=>
    dsimp only
    cases hg:h.get b with
    | none=>exact trivial
    | some o=>
     cases o with
     | map es clock=>
      obtain⟨_,hlt,E,hO,hE⟩:=eM hs hb hg
      dsimp only
      refine au hs (.int .i64 _) ?_
      have:=hE.length
      simp only [Array.length_toList] at this
      simp [Builtin.len_,ht,a8 hu,ai hO (by simp),goInt,aG,this]
     | lmap es=>
      obtain⟨_,hlt,E,clock,es',hO,hperm,hE,_⟩:=jb hs hb hg
      dsimp only
      refine au hs (.int .i64 _) ?_
      have h1:=hE.length
      have h2:=hperm.length_eq
      rw [List.length_map] at h2
      rw [h2] at h1
      simp only [Array.length_toList] at h1
      simp [Builtin.len_,ht,a8 hu,ai hO (by simp),goInt,aG,h1]
     | smap es ck=>
      obtain⟨hlt,E,clock,es',hO,hperm,hE,_⟩:=mU hs hb hg
      dsimp only
      refine au hs (.int .i64 _) ?_
      have h1:=hE.length
      have h2:=hperm.length_eq
      have h3:(eI es).length=es.length:=by
       have:∀ l:List (AV × AV × Key),(eI l).length=l.length:=fun l=>by
        induction l with
        | nil=>rfl
        | cons e r ih=>show (eI r).length+1=r.length+1;rw [ih]
       exact this es
      rw [List.length_map] at h2
      rw [h2,h3] at h1
      simp only [Array.length_toList] at h1
      simp [Builtin.len_,ht,a8 hu,ai hO (by simp),goInt,aG,h1]
     | _=>exact trivial
   | _=>exact trivial
  | array n e=>exact au hs (.int .i64 _) (by simp [Builtin.len_,ht,a8 hu,goInt])
  | pointer a=>
   dsimp only
   cases hu2:P.underlying a with
   | none=>exact trivial
   | some d2=>
    cases d2 with
    | array n e=>exact au hs (.int .i64 _) (by simp [Builtin.len_,ht,a8 hu,a8 hu2,goInt])
    | _=>exact trivial
  | _=>exact trivial
end
end Go.VM
namespace Go.VM
section
variable {P:Program} {w0:Base} {ρ:Rho} {h:Heap} {w:World}
theorem oo{seen:List Nat}:∀ {es:List (AV × AV × Nat)} {E:List MapEntry},ERel ρ es E→ERel ρ (ba seen es) (E.filter fun e=>!(seen.contains e.born))
 | _,_,.nil=>by simpa [ba] using ERel.nil
 | _,_,.cons k v K V c r R hk hv hr=>by
  have hany:seen.any (fun n=>Nat.beq n c)=seen.contains c:=by
   rw [Bool.eq_iff_iff]
   simp [List.any_eq_true]
  simp only [ba,List.filter_cons]
  rw [hany]
  cases hc:seen.contains c with
  | true=>simpa [hc] using oo hr
  | false=>simpa [hc] using ERel.cons k v K V c _ _ hk hv (oo hr)
theorem vo{last:Nat}:∀ {es:List (AV × AV × Nat)} {E:List MapEntry},ERel ρ es E→m9 last es=!(E.all fun e=>decide (e.born ≥ last))
 | _,_,.nil=>by simp [m9]
 | _,_,.cons k v K V c r R hk hv hr=>by
  simp only [m9,List.all_cons]
  cases hb:Nat.blt c last with
  | true=>have:=cb hb;simp;exact .inl this
  | false=>
   have:¬ c < last:=by intro e;rw [←Nat.blt_eq] at e;rw [hb] at e;cases e
   have h2:decide (c ≥ last)=true:=by simp;omega
   simp [vo hr,h2]
theorem vp{since:Nat}:∀ {es:List (AV × AV × Nat)} {E:List MapEntry},ERel ρ es E→gn since es=true→∀ e ∈ E,e.born < since
 | _,_,.nil,_,e,he=>by cases he
 | _,_,.cons k v K V c r R hk hv hr,h,e,he=>by
  unfold gn at h
  cases hb:Nat.blt c since with
  | false=>simp [hb] at h
  | true=>
   simp only [hb,cond_true] at h
   cases he with
   | head=>exact cb hb
   | tail _ he=>exact vp hr h e he
theorem rh{b m:Key}{since clock:Nat}{seen:List Nat}{e:AV × AV × Nat}:∀ {l:List (AV × AV × Nat)},e ∈ l→((.tup [.bool true,e.1,e.2.1],h.put b (.miter (some m) since (cat seen [e.2.2]) clock)):AV × Heap) ∈ jG b m since seen clock h l
 | [],h=>by cases h
 | x::r,hm=>by
  obtain⟨k,v,c⟩:=x
  unfold jG
  cases hm with
  | head=>simp
  | tail _ hm=>exact List.mem_cons_of_mem _ (rh hm)
theorem vq(hs:Sim w0 ρ h w){b m:Key}{L Lm:Loc}{since last clock:Nat}{seen:List Nat}{es:List (AV × AV × Nat)}{ty:TypeId}(hb:ρ b=some L)(hbase:L.base=0)(hg:h.get b=some (.miter (some m) since seen last))(hm:ρ m=some Lm)
  (hgm:h.get m=some (.map es clock)):ValOk P w0 ρ h w (Instr.next (.pointer (some ⟨L.B,0,none⟩)) false ty) (uc b m since seen last es clock h):=by
 obtain⟨o,ho,hlt,hr⟩:=hs.obj b L hb
 rw [hg] at ho;cases ho
 obtain⟨hN,_,M,hO,Lm',hm',rfl⟩:=hr
 rw [hm] at hm';cases hm'
 obtain⟨_,hltm,E,hOm,hE⟩:=eM hs hm hgm
 unfold uc
 refine aa (fun hc=>?_) (fun _=>trivial)
 have hall:¬ ((!(⟨seen⟩:Array Nat).isEmpty && !E.isEmpty && E.all fun x=>decide (x.born ≥ last))=true):=by
  intro hh
  simp only [Bool.and_eq_true] at hh
  obtain⟨⟨h1,h2⟩,h3⟩:=hh
  simp only [Bool.or_eq_true] at hc
  rcases hc with (hc | hc) | hc
  ·have:seen=[]:=by simpa using hc
   subst this;simp at h1
  ·have he:es=[]:=by simpa using hc
   have:E.toList=[]:=by apply List.eq_nil_of_length_eq_zero;rw [hE.length,he];rfl
   have:E=#[]:=by simpa using this
   subst this;simp at h2
  ·rw [vo hE] at hc
   rw [←Array.all_toList] at h3
   rw [h3] at hc;cases hc
 have hleft:=oo (seen:=seen) hE
 have hfil:(E.filter fun e=>!(⟨seen⟩:Array Nat).contains e.born)=(E.toList.filter fun e=>!(seen.contains e.born)).toArray:=by
  rw [←Array.toList_inj] 
  simp
 have pre:∀ R,(match ((if (((E.filter fun e=>!(⟨seen⟩:Array Nat).contains e.born).filter (·.born < since)).isEmpty) then #[none] else #[])++(((E.filter fun e=>!(⟨seen⟩:Array Nat).contains e.born).filter (·.born < since))++((E.filter fun e=>!(⟨seen⟩:Array Nat).contains e.born).filter (·.born ≥ since))).map some:Array (Option MapEntry)) with
   | candidates=>(do match candidates[←choose (.mapNext candidates.size)]? with
    | some (some e)=>setObj L.B (.mapIter (some Lm.B) since ((⟨seen⟩:Array Nat).push e.born) clock);pure (.tuple #[.bool true,e.key,e.val])
    | some none=>pure (.tuple #[.bool false])
    | none=>stuck "Next: no such candidate":Sem Value)).run P w=R→(Instr.next (.pointer (some ⟨L.B,0,none⟩)) false ty).run P w=R:=by
  intro R hR
  rw [←hR]
  simp only [Instr.next,Sem.run_bind,ai hO (by simp),ai hOm (by simp),Result.andThen_ok,if_neg hall]
  rfl
 generalize (E.filter fun e=>!(⟨seen⟩:Array Nat).contains e.born)=F at *
 have hfin:∀ k v c K V (C:Array (Option MapEntry)) (j:Nat),Rel ρ k K→Rel ρ v V→F.filter (·.born < since)=F→F.isEmpty=false→
   (F.filter (·.born ≥ since)=#[])→(choose (.mapNext F.size)).run P w=.ok j (if F.size≤1 then w else w.drew)→
   F[j]?=some { key:=K,val:=V,born:=c }→
   dv P w0 ρ h w (Instr.next (.pointer (some ⟨L.B,0,none⟩)) false ty) (.tup [.bool true,k,v]) (h.put b (.miter (some m) since (cat seen [c]) clock)):=by
  intro k v c K V C j hk hv hold hne hnew hch hj
  generalize hw1:(if F.size≤1 then w else w.drew)=w1 at hch
  have hs1:Sim w0 ρ h w1:=by rw [←hw1];split;exact hs;exact hs.drew
  have hO1:w1.heap[L.B]?=some (.mapIter (some Lm.B) since ⟨seen⟩ last):=by rw [←hw1];split;exact hO;exact hO
  have hlt1:L.B < w1.heap.size:=by rw [←hw1];split;exact hlt;exact hlt
  refine⟨ρ,.tuple ⟨[.bool true,K,V]⟩,al w1 L.B (.mapIter (some Lm.B) since ((⟨seen⟩:Array Nat).push c) clock),Sub.refl _,aK hb,?_,.tup _ _ (.cons _ _ _ _ (.bool true) (.cons _ _ _ _ hk (.cons _ _ _ _ hv .nil))),pre _ ?_⟩
  ·exact hs1.put hb hg rfl hN rfl rfl (by simp [al]) (fun k hk=>aO hk) (aV hlt1) ⟨hN,hbase,some Lm.B,by rw [aL];simp,Lm,hm,rfl⟩
  ·rw [hold,hnew,hne]
   have hsz:(((if false=true then #[none] else #[])++(F++#[]).map some:Array (Option MapEntry)))=F.map some:=by simp
   rw [hsz]
   simp only [Array.size_map,Sem.run_bind,hch,Result.andThen_ok,Array.getElem?_map,hj,Option.map_some,aR hO1 (by simp),Sem.run_pure]
 have hidx:∀ (i:Nat) (e:AV × AV × Nat),(ba seen es)[i]?=some e→∃ K V,F[i]?=some { key:=K,val:=V,born:=e.2.2 }∧Rel ρ e.1 K∧Rel ρ e.2.1 V:=by
  intro i e he
  obtain⟨K,V,h1,h2⟩:=hleft.get? i he
  exact⟨K,V,by rw [hfil];simpa using h1,h2⟩
 have hsize:F.size=(ba seen es).length:=by rw [hfil,←hleft.length];simp
 have hold:gn since (ba seen es)=true→F.filter (·.born < since)=F∧F.filter (·.born ≥ since)=#[]:=by
  intro ho
  rw [hfil]
  have:=vp hleft ho
  constructor
  ·apply Array.ext';simp only [Array.toList_filter]
   rw [List.filter_eq_self];intro e he;simpa using this e he
  ·apply Array.ext';simp only [Array.toList_filter]
   rw [List.filter_eq_nil_iff];intro e he;have:=this e he;simp;omega
 generalize hun:ba seen es=us at *
 unfold xB
 split
 ·have hl:(E.toList.filter fun e=>!(seen.contains e.born))=[]:=by
   cases hx:(E.toList.filter fun e=>!(seen.contains e.born)) with
   | nil=>rfl
   | cons=>rw [hx] at hleft;cases hleft
  refine au hs (.tup [.bool false] [.bool false] (.cons _ _ _ _ (.bool false) .nil)) (pre _ ?_)
  rw [hfil,hl]
  simp [choose,Sem.run,Question.forced]
 ·rename_i k v c
  refine aa (fun hcc=>?_) (fun _=>trivial)
  obtain⟨K,V,hj,hk,hv⟩:=hidx 0 (k,v,c) (by simp)
  obtain⟨h1,h2⟩:=hold (by simp [gn,hcc])
  refine hfin k v c K V #[] 0 hk hv h1 ?_ h2 ?_ hj
  ·rw [←Bool.not_eq_true];intro he;have:F.size=0:=by simpa using he
   rw [hsize] at this;simp at this
  ·rw [hsize];simp [choose,Sem.run,Question.forced]
 ·rename_i h0 h1
  refine aa (fun hcc=>?_) (fun _=>trivial)
  obtain⟨o1,o2⟩:=hold hcc
  have hpos:2≤us.length:=by
   rcases us with _ | ⟨a,_ | ⟨b,r⟩⟩
   ·exact absurd rfl h0
   ·obtain⟨k,v,c⟩:=a;exact absurd rfl (h1 k v c)
   ·simp
  have hch:(choose (.mapNext F.size)).run P w=.ok (w.tape w.drawn (.mapNext us.length) % us.length) w.drew:=by
   rw [hsize]
   have:¬ us.length≤1:=by omega
   simp [choose,Sem.run,Question.forced,this,Question.cut]
  have hjl:w.tape w.drawn (.mapNext us.length) % us.length < us.length:=Nat.mod_lt _ (by omega)
  obtain⟨e,he⟩:∃ e,us[w.tape w.drawn (.mapNext us.length) % us.length]?=some e:=⟨_,List.getElem?_eq_getElem hjl⟩
  obtain⟨K,V,hj,hk,hv⟩:=hidx _ e he
  have hmem:=rh (b:=b) (m:=m) (since:=since) (seen:=seen) (clock:=clock) (h:=h) (List.mem_of_getElem? he)
  refine⟨_,hmem,hfin e.1 e.2.1 e.2.2 K V #[] _ hk hv o1 ?_ o2 ?_ hj⟩
  ·rw [←Bool.not_eq_true];intro he;have:F.size=0:=by simpa using he
   rw [hsize] at this;omega
  ·rw [hch,hsize];rw [if_neg (by omega)]
theorem ri{b:Key}:∀ {l:List Key},vc b l=true ↔ b ∈ l
 | []=>by simp [vc]
 | a::r=>by
  unfold vc
  by_cases hab:a=b
  ·subst hab;rw [(Key.same_iff _ _).2 rfl];simp
  ·have hf:Key.same a b=false:=by
    cases hq:Key.same a b with
    | false=>rfl
    | true=>exact absurd ((Key.same_iff _ _).1 hq) hab
   rw [hf,cond_false,ri (l:=r),List.mem_cons]
   exact⟨.inr,fun h=>h.resolve_left (fun e=>hab e.symm)⟩
theorem yo{all:List Key}:∀ {l:List Key},I3 all l=true→∀ b ∈ l,b ∈ all
 | [],_,_,hb=>by cases hb
 | a::r,h,b,hb=>by
  have h:cond (vc a all) (I3 all r) false=true:=h
  cases hm:vc a all with
  | false=>rw [hm] at h;cases h
  | true=>
   rw [hm] at h
   cases hb with
   | head=>exact ri.1 hm
   | tail _ hb=>exact yo h b hb
theorem vt:∀ {a b:List Key},xy a b=true→a=b
 | [],[],_=>rfl
 | a::r,b::s,h=>by
  have h:cond (Key.same a b) (xy r s) false=true:=h
  cases hm:Key.same a b with
  | false=>rw [hm] at h;cases h
  | true=>rw [hm] at h;rw [(Key.same_iff _ _).1 hm,vt h]
 | [],_::_,h=>by cases h
 | _::_,[],h=>by cases h
theorem AgeRel.mem1:∀ {l:List Key} {sn:List Nat},AgeRel ρ l sn→∀ b ∈ l,∃ L,ρ b=some L∧L.base ∈ sn
 | _,_,.nil,_,hb=>by cases hb
 | _,_,.cons a L r R h hr,b,hb=>by
  cases hb with
  | head=>exact⟨L,h,List.mem_cons_self⟩
  | tail _ hb=>obtain⟨L',h1,h2⟩:=hr.mem1 b hb;exact⟨L',h1,List.mem_cons_of_mem _ h2⟩
theorem AgeRel.mem2:∀ {l:List Key} {sn:List Nat},AgeRel ρ l sn→∀ c ∈ sn,∃ b L,b ∈ l∧ρ b=some L∧L.base=c
 | _,_,.nil,_,hb=>by cases hb
 | _,_,.cons a L r R h hr,c,hc=>by
  cases hc with
  | head=>exact⟨a,L,List.mem_cons_self,h,rfl⟩
  | tail _ hc=>obtain⟨b,L',h1,h2,h3⟩:=hr.mem2 c hc;exact⟨b,L',List.mem_cons_of_mem _ h1,h2,h3⟩
theorem AgeRel.push:∀ {l:List Key} {sn:List Nat},AgeRel ρ l sn→∀ {b:Key} {L:Loc},ρ b=some L→AgeRel ρ (cat l [b]) (cat sn [L.base])
 | _,_,.nil,b,L,h=>.cons b L [] [] h .nil
 | _,_,.cons a M r R hM hr,_,_,h=>.cons a M _ _ hM (hr.push h)
theorem EU:∀ {l:List (AV × AV × Key)} {es:List (AV × AV × Nat)},KsRel ρ l es→(es.map fun e=>e.2.2).Nodup→∀ {a b:Key} {A B:Loc},a ∈ keysS l→b ∈ keysS l→ρ a=some A→ρ b=some B→A.base=B.base→a=b
 | _,_,.nil,_,_,_,_,_,ha,_,_,_,_=>by cases ha
 | _,_,.cons k v x X r R hX hr,hn,a,b,A,B,ha,hb,hA,hB,he=>by
  rw [List.map_cons,List.nodup_cons] at hn
  have no:∀ {y:Key} {Y:Loc},y ∈ keysS r→ρ y=some Y→Y.base≠X.base:=fun {y} {Y} hy hY e=>by
   obtain⟨Y',e',h1,h2,h3⟩:=hr.ages y hy
   rw [hY] at h1;cases h1
   exact hn.1 (List.mem_map.2 ⟨e',h2,h3.trans e⟩)
  have ha:a ∈ x::keysS r:=ha
  have hb:b ∈ x::keysS r:=hb
  rcases List.mem_cons.1 ha with rfl | ha'
  ·rcases List.mem_cons.1 hb with rfl | hb'
   ·rfl
   ·rw [hX] at hA;cases hA
    exact absurd he.symm (no hb' hB)
  ·rcases List.mem_cons.1 hb with rfl | hb'
   ·rw [hX] at hB;cases hB
    exact absurd he (no ha' hA)
   ·exact EU hr hn.2 ha' hb' hA hB he
theorem Ct{seen:List Key}{sn:List Nat}(hst:AgeRel ρ seen sn):∀ {l:List (AV × AV × Key)} {es:List (AV × AV × Nat)},KsRel ρ l es→(∀ a b A B,a ∈ keysS l→b ∈ seen→ρ a=some A→ρ b=some B→A.base=B.base→a=b)→KsRel ρ (qm seen l) (ba sn es)
 | _,_,.nil,_=>.nil
 | _,_,.cons k v x X r R hX hr,hi=>by
  have ih:=Ct hst hr fun a b A B ha=>hi a b A B (List.mem_cons_of_mem _ ha)
  show KsRel ρ (cond (vc x seen) (qm seen r) ((k,v,x)::qm seen r)) (cond (sn.any fun n=>Nat.beq n X.base) (ba sn R) ((k,v,X.base)::ba sn R))
  have:vc x seen=sn.any fun n=>Nat.beq n X.base:=by
   rw [Bool.eq_iff_iff,ri,List.any_eq_true]
   constructor
   ·intro hx
    obtain⟨L,h1,h2⟩:=hst.mem1 x hx
    rw [hX] at h1;cases h1
    exact⟨_,h2,Nat.beq_refl _⟩
   ·rintro ⟨c,hc,he⟩
    obtain⟨b,B,h1,h2,h3⟩:=hst.mem2 c hc
    have he:=Nat.eq_of_beq_eq_true he
    have:=hi x b X B List.mem_cons_self h1 hX h2 (by omega)
    rw [this];exact h1
  rw [this]
  cases sn.any fun n=>Nat.beq n X.base with
  | true=>exact ih
  | false=>exact .cons k v x X _ _ hX ih
theorem ez{sn:List Nat}:∀ es:List (AV × AV × Nat),ba sn es=es.filter fun e=>!(sn.any fun n=>Nat.beq n e.2.2)
 | []=>rfl
 | e::r=>by
  unfold ba
  rw [List.filter_cons,ez r]
  cases sn.any fun n=>Nat.beq n e.2.2<;>rfl
theorem ERel.ages:∀ {es:List (AV × AV × Nat)} {E:List MapEntry},ERel ρ es E→E.map (·.born)=es.map fun e=>e.2.2
 | _,_,.nil=>rfl
 | _,_,.cons k v K V c r R _ _ hr=>by simp [hr.ages]
theorem rj{b m:Key}{since clock:Nat}{sn:List Nat}{h:Heap}:∀ {l:List (AV × AV × Nat)} {p:AV × Heap},p ∈ jG b m since sn clock h l→∃ e ∈ l,p=(.tup [.bool true,e.1,e.2.1],h.put b (.miter (some m) since (cat sn [e.2.2]) clock))
 | [],_,hp=>by cases hp
 | (k,v,c)::r,p,hp=>by
  have hp:p ∈ (AV.tup [.bool true,k,v],h.put b (.miter (some m) since (cat sn [c]) clock))::jG b m since sn clock h r:=hp
  cases hp with
  | head=>exact⟨_,List.mem_cons_self,rfl⟩
  | tail _ hp=>obtain⟨e,h1,h2⟩:=rj hp;exact⟨e,List.mem_cons_of_mem _ h1,h2⟩
theorem vu{b m ck:Key}{all seen:List Key}{h:Heap}:∀ {l:List (AV × AV × Key)} {e:AV × AV × Key},e ∈ l→(AV.tup [.bool true,e.1,e.2.1],h.put b (.smiter m all (cat seen [e.2.2]) ck)) ∈ Ge b m all seen ck h l
 | [],_,he=>by cases he
 | (k,v,c)::r,e,he=>by
  cases he with
  | head=>exact List.mem_cons_self
  | tail _ he=>exact List.mem_cons_of_mem _ (vu he)
theorem KsRel.back:∀ {l:List (AV × AV × Key)} {es:List (AV × AV × Nat)},KsRel ρ l es→∀ e ∈ es,∃ x L,(e.1,e.2.1,x) ∈ l∧ρ x=some L∧L.base=e.2.2
 | _,_,.nil,_,he=>by cases he
 | _,_,.cons k v b L r R h hr,e,he=>by
  cases he with
  | head=>exact⟨b,L,List.mem_cons_self,h,rfl⟩
  | tail _ he=>obtain⟨x,L',h1,h2,h3⟩:=hr.back e he;exact⟨x,L',List.mem_cons_of_mem _ h1,h2,h3⟩
theorem KsRel.len:∀ {l:List (AV × AV × Key)} {es:List (AV × AV × Nat)},KsRel ρ l es→l.length=es.length
 | _,_,.nil=>rfl
 | _,_,.cons _ _ _ _ _ _ _ hr=>by simp [hr.len]
theorem vv:∀ {l:List (AV × AV × Key)} {k v:AV} {x:Key},(k,v,x) ∈ l→x ∈ keysS l
 | [],_,_,_,h=>by cases h
 | e::r,k,v,x,h=>by
  show x ∈ e.2.2::keysS r
  cases h with
  | head=>exact List.mem_cons_self
  | tail _ h=>exact List.mem_cons_of_mem _ (vv h)
theorem AR(hs:Sim w0 ρ h w){b m sk:Key}{L:Loc}{all seen:List Key}{ty:TypeId}(hb:ρ b=some L)(hg:h.get b=some (.smiter m all seen sk)):ValOk P w0 ρ h w (Instr.next (.pointer (some ⟨L.B,0,none⟩)) false ty) (xz b m all seen h):=by
 unfold xz
 split
 ·rename_i es ck hgm
  refine aa (fun hc=>?_) (fun _=>trivial)
  simp only [Bool.and_eq_true] at hc
  obtain rfl:=vt hc.1
  have hsubk:=yo hc.2
  obtain⟨o,ho,_,hr⟩:=hs.obj b L hb
  rw [hg] at ho;cases ho
  obtain⟨hN,hbase,Lm,since,Ls,sn,hm,hsk,hO,hst,hall⟩:=hr
  generalize hst0:Ls.base=st at hO hall
  obtain⟨o,ho,_,hr⟩:=hs.obj m Lm hm
  rw [hgm] at ho;cases ho
  obtain⟨hNm,E,Lc,hck,hOm,⟨es',es'',hks,hp,hE⟩,hstp⟩:=hr
  generalize hclk0:Lc.base=clock at hOm hstp
  have hbm:m≠b:=fun e=>by subst e;rw [hg] at hgm;cases hgm
  have hages:∀ e ∈ es',∃ x ∈ E.toList,x.born=e.2.2:=hE.born
  have hnod:(es''.map fun e=>e.2.2).Nodup:=by
   have h1:=hstp.2
   rw [hE.ages] at h1
   exact (hp.map fun e=>e.2.2).nodup_iff.1 h1
  have hold:∀ e ∈ es',e.2.2 < since∧e.2.2 < st:=fun e he=>by
   obtain⟨x,X,h1,h2,h3⟩:=hks.back e (hp.mem_iff.1 he)
   obtain⟨X',h4,h5,h6⟩:=hall x (vv h1)
   rw [h2] at h4;cases h4
   omega
  -- the heap told exactly
  have s1:Sim w0 ρ (h.put m (.map es' clock)) w:=hs.less hgm rfl fun L' e ho'=>by
   rw [hm] at e;cases e
   exact⟨hNm,E,hOm,hE⟩
  have s2:Sim w0 ρ ((h.put m (.map es' clock)).put b (.miter (some m) since sn st)) w:=s1.less (by rw [Heap.get_put_other _ m b _ hbm];exact hg) rfl fun L' e ho'=>by
   rw [hb] at e;cases e
   exact⟨hN,hbase,some Lm.B,hO,Lm,hm,rfl⟩
  have g1:((h.put m (.map es' clock)).put b (.miter (some m) since sn st)).get b=some (.miter (some m) since sn st):=Heap.get_put_same _ _ _
  have g2:((h.put m (.map es' clock)).put b (.miter (some m) since sn st)).get m=some (.map es' clock):=by rw [Heap.get_put_other _ b m _ (Ne.symm hbm)];exact Heap.get_put_same _ _ _
  have hnext:=vq (P:=P) (ty:=ty) s2 hb hbase g1 hm g2
  -- and told loosely again
  have back:∀ {ρ':Rho} {w':World} {H:Heap} {seen':List Key} {sn':List Nat} {st':Nat} {sk':Key} {Ls':Loc},ρ sk'=some Ls'→Ls'.base=st'→Sub ρ ρ'→(∀ k,k≠b→k≠m→H.get k=h.get k)→H.get m=some (.map es' clock)→H.get b=some (.miter (some m) since sn' st')→Sim w0 ρ' H w'→AgeRel ρ' seen' sn'→(∀ e ∈ es',e.2.2 < st')→
    Sim w0 ρ' (h.put b (.smiter m (keysS es) seen' sk')) w':=by
   intro ρ' w' H seen' sn' st' sk' Ls' hsk' hLs' hsub hH h1 h2 hs' hst' hlt
   subst hLs'
   have t1:Sim w0 ρ' (H.put m (.smap es ck)) w':=hs'.less h1 rfl fun L' e ho'=>by
    obtain⟨hN',E',hO',hE'⟩:=ho'
    refine⟨hN',E',Lc,hsub _ _ hck,by rw [hclk0];exact hO',⟨es',es'',hks.mono hsub,hp,hE'⟩,?_,?_⟩
    ·intro x hx
     have:x.born ∈ E'.toList.map (·.born):=List.mem_map.2 ⟨x,hx,rfl⟩
     rw [hE'.ages] at this
     obtain⟨e,he,h3⟩:=List.mem_map.1 this
     obtain⟨y,hy,h4⟩:=hages e he
     have:=hstp.1 y hy
     rw [hclk0];omega
    ·rw [hE'.ages,←hE.ages];exact hstp.2
   have t2:Sim w0 ρ' ((H.put m (.smap es ck)).put b (.smiter m (keysS es) seen' sk')) w':=t1.less (by rw [Heap.get_put_other _ m b _ hbm];exact h2) rfl fun L' e ho'=>by
    obtain⟨hN',hb',M,hO',Lm',hm',rfl⟩:=ho'
    refine⟨hN',hb',Lm',since,Ls',sn',hm',hsub _ _ hsk',hO',hst',fun x hx=>?_⟩
    obtain⟨X,e,h3,h4,h5⟩:=hks.ages x hx
    have h6:=hp.mem_iff.2 h4
    exact⟨X,hsub _ _ h3,by have:=hold e h6;omega,by have:=hlt e h6;omega⟩
   refine t2.sameGet fun k=>?_
   by_cases hkb:b=k
   ·subst hkb;rw [Heap.get_put_same,Heap.get_put_same]
   ·rw [Heap.get_put_other _ b k _ hkb,Heap.get_put_other _ b k _ hkb]
    by_cases hkm:m=k
    ·subst hkm;rw [Heap.get_put_same];exact hgm
    ·rw [Heap.get_put_other _ m k _ hkm];exact (hH k (Ne.symm hkb) (Ne.symm hkm)).symm
  have keptB:∀ {ρ':Rho} {H:Heap} {seen':List Key} {sk':Key},(∀ k,k≠b→k≠m→H.get k=h.get k)→Kept ρ ((h.put m (.map es' clock)).put b (.miter (some m) since sn st)) ρ' H→Kept ρ h ρ' (h.put b (.smiter m (keysS es) seen' sk')):=by
   intro ρ' H seen' sk' hH hk k x g e
   have n1:k≠b:=fun e'=>by subst e';rw [hb] at e;cases e
   have n2:k≠m:=fun e'=>by subst e';rw [hm] at e;cases e
   have:=hk k x (by rw [Heap.get_put_other _ b k _ (Ne.symm n1),Heap.get_put_other _ m k _ (Ne.symm n2)];exact g) e
   exact⟨this.1,by rw [Heap.get_put_other _ b k _ (Ne.symm n1)];exact g⟩
  have hleft:KsRel ρ (qm seen es) (ba sn es''):=Ct hst hks fun x y X Y hx hy hX hY e=>EU hks hnod hx (hsubk y hy) hX hY e
  have hperm:(ba sn es').Perm (ba sn es''):=by rw [ez,ez];exact hp.filter _
  have hclk:∀ e ∈ es',e.2.2 < clock:=fun e he=>by obtain⟨y,hy,h4⟩:=hages e he;have:=hstp.1 y hy;omega
  have hin:uc b m since sn st es' clock ((h.put m (.map es' clock)).put b (.miter (some m) since sn st))=xB b m since sn clock ((h.put m (.map es' clock)).put b (.miter (some m) since sn st)) (ba sn es'):=by
   unfold uc
   have:or (or sn.isEmpty es'.isEmpty) (m9 st es')=true:=by
    cases es' with
    | nil=>simp
    | cons e r=>
     have:Nat.blt e.2.2 st=true:=by rw [Nat.blt_eq];exact (hold e List.mem_cons_self).2
     simp [m9,this]
   rw [this];rfl
  rw [hin] at hnext
  have hus:∀ e ∈ ba sn es',e ∈ es':=fun e he=>by rw [ez] at he;exact (List.mem_filter.1 he).1
  have hHput:∀ X k,k≠b→k≠m→(((h.put m (.map es' clock)).put b (.miter (some m) since sn st)).put b X).get k=h.get k:=fun X k n1 n2=>by
   rw [Heap.get_put_other _ b k _ (Ne.symm n1),Heap.get_put_other _ b k _ (Ne.symm n1),Heap.get_put_other _ m k _ (Ne.symm n2)]
  -- one entry
  have one:∀ e ∈ ba sn es',∀ {x:Key} {X:Loc},ρ x=some X→X.base=e.2.2→
    dv P w0 ρ ((h.put m (.map es' clock)).put b (.miter (some m) since sn st)) w (Instr.next (.pointer (some ⟨L.B,0,none⟩)) false ty) (.tup [.bool true,e.1,e.2.1]) (((h.put m (.map es' clock)).put b (.miter (some m) since sn st)).put b (.miter (some m) since (cat sn [e.2.2]) clock))→
    dv P w0 ρ h w (Instr.next (.pointer (some ⟨L.B,0,none⟩)) false ty) (.tup [.bool true,e.1,e.2.1]) (h.put b (.smiter m (keysS es) (cat seen [x]) ck)):=by
   rintro e he x X hX hXb ⟨ρ',V,w',hsub,hk,hs',hr',hrun⟩
   refine⟨ρ',V,w',hsub,keptB (hHput _) hk,back hck hclk0 hsub (hHput _) ?_ (Heap.get_put_same _ _ _) hs' ?_ hclk,hr',hrun⟩
   ·rw [Heap.get_put_other _ b m _ (Ne.symm hbm)];exact g2
   ·rw [←hXb];exact (hst.mono hsub).push (hsub _ _ hX)
  generalize hl:qm seen es=l at hleft
  have hlen:l.length=(ba sn es').length:=by rw [hleft.len,hperm.length_eq]
  unfold Gf
  split
  ·have hnil:ba sn es'=[]:=by simpa using hlen.symm
   rw [hnil] at hnext
   obtain⟨ρ',V,w',hsub,hk,hs',hr',hrun⟩:=hnext
   have hsame:∀ k,k≠b→k≠m→((h.put m (.map es' clock)).put b (.miter (some m) since sn st)).get k=h.get k:=fun k n1 n2=>by rw [Heap.get_put_other _ b k _ (Ne.symm n1),Heap.get_put_other _ m k _ (Ne.symm n2)]
   have hbk:=back hsk hst0 hsub hsame g2 g1 hs' (hst.mono hsub) (fun e he=>(hold e he).2)
   have hext:∀ k,h.get k=(h.put b (.smiter m (keysS es) seen sk)).get k:=fun k=>by
    by_cases hkb:b=k
    ·subst hkb;rw [Heap.get_put_same];exact hg
    ·rw [Heap.get_put_other _ b k _ hkb]
   have hkp:=keptB (seen':=seen) (sk':=sk) hsame hk
   exact⟨ρ',V,w',hsub,fun k x g e=>⟨(hkp k x g e).1,g⟩,hbk.sameGet hext,hr',hrun⟩
  ·rename_i k v x
   have h1:(ba sn es').length=1:=by rw [←hlen];rfl
   obtain⟨e,he⟩:∃ e,ba sn es'=[e]:=by
    match hq:ba sn es',h1 with
    | [e],_=>exact⟨e,rfl⟩
   have hmem:e ∈ ba sn es':=by rw [he];exact List.mem_cons_self
   obtain⟨y,Y,h2,h3,h4⟩:=hleft.back e (hperm.mem_iff.1 hmem)
   have h2:(e.1,e.2.1,y) ∈ [(k,v,x)]:=h2
   rcases List.mem_cons.1 h2 with h2 | h2
   ·cases h2
    have hn:ValOk P w0 ρ ((h.put m (.map es' clock)).put b (.miter (some m) since sn st)) w (Instr.next (.pointer (some ⟨L.B,0,none⟩)) false ty) (xB b m since sn clock ((h.put m (.map es' clock)).put b (.miter (some m) since sn st)) [e]):=by rw [←he];exact hnext
    obtain⟨ek,ev,ec⟩:=e
    have hlt:Nat.blt ec since=true:=by rw [Nat.blt_eq];exact (hold _ (hus _ hmem)).1
    have hn:ValOk P w0 ρ ((h.put m (.map es' clock)).put b (.miter (some m) since sn st)) w (Instr.next (.pointer (some ⟨L.B,0,none⟩)) false ty) (cond (Nat.blt ec since) (.val (.tup [.bool true,ek,ev]) (((h.put m (.map es' clock)).put b (.miter (some m) since sn st)).put b (.miter (some m) since (cat sn [ec]) clock))) (.bad "next: new")):=hn
    rw [hlt] at hn
    exact one _ hmem h3 h4 hn
   ·cases h2
  ·rename_i n0 n1
   have h2:2≤(ba sn es').length:=by
    rw [←hlen]
    rcases l with _ | ⟨a,_ | ⟨c,r⟩⟩
    ·exact absurd rfl n0
    ·obtain⟨k,v,c⟩:=a;exact absurd rfl (n1 k v c)
    ·simp
   have hao:gn since (ba sn es')=true:=by
    have:∀ us:List (AV × AV × Nat),(∀ e ∈ us,e.2.2 < since)→gn since us=true:=by
     intro us
     induction us with
     | nil=>intro _;rfl
     | cons a r ih=>
      intro hh
      unfold gn
      have:Nat.blt a.2.2 since=true:=by rw [Nat.blt_eq];exact hh a List.mem_cons_self
      rw [this];exact ih fun e he=>hh e (List.mem_cons_of_mem _ he)
    exact this _ fun e he=>(hold e (hus e he)).1
   have hn:ValOk P w0 ρ ((h.put m (.map es' clock)).put b (.miter (some m) since sn st)) w (Instr.next (.pointer (some ⟨L.B,0,none⟩)) false ty) (.alts (jG b m since sn clock ((h.put m (.map es' clock)).put b (.miter (some m) since sn st)) (ba sn es'))):=by
    generalize hq:ba sn es'=us at hnext h2 hao
    match us,h2 with
    | a::c::r,_=>
     have hn:ValOk P w0 ρ ((h.put m (.map es' clock)).put b (.miter (some m) since sn st)) w (Instr.next (.pointer (some ⟨L.B,0,none⟩)) false ty) (cond (gn since (a::c::r)) (.alts (jG b m since sn clock ((h.put m (.map es' clock)).put b (.miter (some m) since sn st)) (a::c::r))) (.bad "next: new")):=hnext
     rw [hao] at hn
     exact hn
   obtain⟨p,hp',hv⟩:=hn
   obtain⟨e,he,rfl⟩:=rj hp'
   obtain⟨y,Y,h3,h4,h5⟩:=hleft.back e (hperm.mem_iff.1 he)
   exact⟨_,vu h3,one e he h4 h5 hv⟩
 ·exact trivial
theorem uN(l c pos:Nat)(hp:pos < l)(hb:c / 256 ^ pos % 256 < 128):Utf8.decode (strOf l c) pos=(c / 256 ^ pos % 256,1):=by
 have hsz:pos < (strOf l c).size:=by rw [aI];exact hp
 have hg:=i7 l c pos hp
 have hbyte:(strOf l c)[pos]=UInt8.ofNat (c / 256 ^ pos):=by
  have hlen:pos < (ac l c).length:=by rw [aD];exact hp
  rw [List.getElem?_eq_getElem hlen] at hg
  exact Option.some.inj hg
 have ht:((strOf l c)[pos]'hsz).toNat=c / 256 ^ pos % 256:=by rw [hbyte];simp
 rw [decode_ascii _ pos hsz (by rw [ht];exact hb),ht]
theorem EV(hs:Sim w0 ρ h w){it:AV}{It:Value}{isStr:Bool}{ty:TypeId}(hit:Rel ρ it It):ValOk P w0 ρ h w (Instr.next It isStr ty) (Gi it isStr h):=by
 cases hit with
 | ptr b off L hb=>
  dsimp only [Gi]
  refine aa (fun hoff=>?_) (fun _=>trivial)
  have hoff:=Nat.eq_of_beq_eq_true hoff
  subst hoff
  unfold Db
  obtain⟨o,ho,hlt,hr⟩:=hs.obj b L hb
  cases o with
  | miter m since seen last=>
   have hr0:=hr
   obtain⟨hN,hbase,M,hO,hM⟩:=hr
   rw [hbase]
   cases m with
   | none=>
    rw [ho]
    dsimp only
    refine aa (fun _=>trivial) (fun hst=>?_)
    subst hst
    dsimp only at hM
    subst hM
    exact au hs (.tup [.bool false] [.bool false] (.cons _ _ _ _ (.bool false) .nil)) (by simp [Instr.next,ai hO (by simp)])
   | some m=>
    rw [ho]
    dsimp only
    refine aa (fun _=>trivial) (fun hst=>?_)
    subst hst
    obtain⟨Lm,hm,rfl⟩:=hM
    unfold Gh
    cases hg:h.get m with
    | none=>exact trivial
    | some om=>
     cases om with
     | map es clock=>exact vq hs hb hbase ho hm hg
     | _=>exact trivial
  | siter len code pos=>
   obtain⟨hN,hbase,hcode,hO⟩:=hr
   rw [ho,hbase]
   dsimp only
   refine aa (fun hst=>?_) (fun _=>trivial)
   subst hst
   unfold Gg
   refine aa (fun hpos=>?_) (fun hpos=>?_)
   ·rw [af,qS]
    refine aa (fun hc=>?_) (fun _=>trivial)
    have hp:=cb hpos
    have hc':=cb hc
    have hd:=uN len code pos hp hc'
    refine⟨ρ,.tuple ⟨[.bool true,.int .i64 (Int.ofNat pos),.int .i32 (Int.ofNat (code / 256 ^ pos % 256))]⟩,al w L.B (.stringIter (strOf len code) (pos+1)),Sub.refl _,aK hb,?_,.tup _ _ (.cons _ _ _ _ (.bool true) (.cons _ _ _ _ (.int _ _) (.cons _ _ _ _ (.int _ _) .nil))),?_⟩
    ·exact hs.put hb ho rfl hN rfl rfl (by simp [al]) (fun k hk=>aO hk) (aV hlt) ⟨hN,hbase,hcode,rfl⟩
    ·simp [Instr.next,ai hO (by simp),aI,hp,hd,aR hO (by simp),goInt]
   ·have hp:¬ pos < len:=by intro e;rw [←Nat.blt_eq] at e;rw [hpos] at e;cases e
    exact au hs (.tup [.bool false] [.bool false] (.cons _ _ _ _ (.bool false) .nil)) (by simp [Instr.next,ai hO (by simp),aI,hp])
  | smiter m all seen sk=>
   have hbase:=hr.2.1
   rw [ho,hbase]
   dsimp only
   refine aa (fun _=>trivial) (fun hst=>?_)
   subst hst
   exact AR hs hb ho
  | _=>rw [ho];exact trivial
 | _=>exact trivial
theorem vw{st:Nat}:∀ {es:List (AV × AV × Nat)} {E:List MapEntry} {x:AV × AV × Nat},ERel ρ es E→es.find? (fun e=>Nat.beq e.2.2 st)=some x→∃ K V,E.find? (·.born == st)=some { key:=K,val:=V,born:=x.2.2 }∧Rel ρ x.1 K∧Rel ρ x.2.1 V
 | _,_,x,.nil,e=>by simp at e
 | _,_,x,.cons k v K V c r R hk hv hr,e=>by
  simp only [List.find?_cons] at e ⊢
  cases hc:Nat.beq c st with
  | true=>
   have:=Nat.eq_of_beq_eq_true hc
   subst this
   simp at e
   subst e
   exact⟨K,V,by simp,hk,hv⟩
  | false=>
   have hne:(c == st)=false:=by rw [beq_eq_false_iff_ne];intro e0;subst e0;simp at hc
   simp only [hc] at e
   obtain⟨K2,V2,e2,r2⟩:=vw hr e
   exact⟨K2,V2,by simp only [hne];exact e2,r2⟩
theorem yp{x:Key}{X:Loc}:∀ {l:List (AV × AV × Key)} {es:List (AV × AV × Nat)} {p:AV × AV},KsRel ρ l es→ρ x=some X→Dc x l=some p→(p.1,p.2,X.base) ∈ es
 | _,_,_,.nil,_,h=>by cases h
 | _,_,p,.cons k v b L r R hL hr,hx,h=>by
  have h:cond (Key.same b x) (some (k,v)) (Dc x r)=some p:=h
  cases hb:Key.same b x with
  | true=>
   rw [hb] at h
   have h:some (k,v)=some p:=h
   injection h with h;subst h
   have hbx:=(Key.same_iff _ _).1 hb
   subst hbx
   rw [hL] at hx;cases hx
   exact List.mem_cons_self
  | false=>
   rw [hb] at h
   exact List.mem_cons_of_mem _ (yp hr hx h)
theorem yq:∀ {es:List (AV × AV × Nat)} {E:List MapEntry} {e:AV × AV × Nat},ERel ρ es E→(E.map (·.born)).Nodup→e ∈ es→∃ K V,E.find? (·.born == e.2.2)=some { key:=K,val:=V,born:=e.2.2 }∧Rel ρ e.1 K∧Rel ρ e.2.1 V
 | _,_,e,.nil,_,he=>by cases he
 | _,_,e,.cons k v K V c r R hk hv hr,hn,he=>by
  rw [List.map_cons,List.nodup_cons] at hn
  cases he with
  | head=>exact⟨K,V,by simp,hk,hv⟩
  | tail _ he=>
   obtain⟨K2,V2,h1,h2⟩:=yq hr hn.2 he
   have hne:(c == e.2.2)=false:=by
    rw [beq_eq_false_iff_ne]
    intro e0
    obtain⟨x,hx,hxb⟩:=hr.born e he
    exact hn.1 (List.mem_map.2 ⟨x,hx,by rw [hxb,e0]⟩)
   exact⟨K2,V2,by simp only [List.find?_cons,hne];exact h1,h2⟩
theorem AgeRel.last:∀ {l:List Key} {sn:List Nat},AgeRel ρ l sn→∀ {x:Key},l.getLast?=some x→∃ X,ρ x=some X∧sn.getLast?=some X.base
 | _,_,.nil,_,h=>by cases h
 | _,_,.cons a L [] [] hL .nil,x,h=>by
  have:a=x:=by simpa using h
  subst this
  exact⟨L,hL,by simp⟩
 | _,_,.cons a L (b::r) (c::R) hL hr,x,h=>by
  obtain⟨X,h1,h2⟩:=hr.last (x:=x) (by simpa [List.getLast?_cons_cons] using h)
  exact⟨X,h1,by simpa [List.getLast?_cons_cons] using h2⟩
theorem yt(hs:Sim w0 ρ h w){b m sk:Key}{L:Loc}{all seen:List Key}(hb:ρ b=some L)(hg:h.get b=some (.smiter m all seen sk)):ValOk P w0 ρ h w (Instr.entry (.pointer (some ⟨L.B,0,none⟩))) (ud m seen sk h):=by
 unfold ud
 split
 ·rename_i es ck x hgm hlast
  refine aa (fun hc=>?_) (fun _=>trivial)
  have hc:=(Key.same_iff _ _).1 hc
  subst hc
  unfold Gj
  split
  ·rename_i p hf
   obtain⟨o,ho,_,hr⟩:=hs.obj b L hb
   rw [hg] at ho;cases ho
   obtain⟨hN,hbase,Lm,since,Ls,sn,hm,hsk,hO,hst,hall⟩:=hr
   obtain⟨o,ho,_,hr⟩:=hs.obj m Lm hm
   rw [hgm] at ho;cases ho
   obtain⟨hNm,E,Lc,hck,hOm,⟨es',es'',hks,hp,hE⟩,hstp⟩:=hr
   rw [hsk] at hck;cases hck
   obtain⟨X,hX,hsl⟩:=hst.last hlast
   have hmem:=hp.mem_iff.2 (yp hks hX hf)
   obtain⟨K,V,hfind,hk,hv⟩:=yq hE hstp.2 hmem
   have hback:(⟨sn⟩:Array Nat).back?=some X.base:=by rw [Array.back?_eq_getElem?];rw [List.getLast?_eq_getElem?] at hsl;simpa using hsl
   have hfe:E.find? (·.born == X.base)=some { key:=K,val:=V,born:=X.base }:=by rw [←Array.find?_toList];exact hfind
   refine au hs (.tup [p.1,p.2] [K,V] (.cons _ _ _ _ hk (.cons _ _ _ _ hv .nil))) ?_
   simp [Instr.entry,ai hO (by simp),ai hOm (by simp),hback,hfe]
  ·exact trivial
 ·exact trivial
theorem DR(hs:Sim w0 ρ h w){it:AV}{It:Value}(hit:Rel ρ it It):ValOk P w0 ρ h w (Instr.entry It) (BL it h):=by
 cases hit with
 | ptr b off L hb=>
  dsimp only [BL]
  refine aa (fun hoff=>?_) (fun _=>trivial)
  have hoff:=Nat.eq_of_beq_eq_true hoff
  subst hoff
  unfold zL
  obtain⟨o,ho,hlt,hr⟩:=hs.obj b L hb
  cases o with
  | miter m since seen last=>
   obtain⟨hN,hbase,M,hO,hM⟩:=hr
   rw [ho,hbase]
   cases m with
   | none=>exact trivial
   | some m=>
    obtain⟨Lm,hm,rfl⟩:=hM
    dsimp only
    cases hg:h.get m with
    | none=>exact trivial
    | some om=>
     cases om with
     | map es clock=>
      obtain⟨_,_,E,hOm,hE⟩:=eM hs hm hg
      cases hl:seen.getLast? with
      | none=>exact trivial
      | some st=>
       dsimp only
       refine aa (fun hc=>?_) (fun _=>trivial)
       have hc:=Nat.eq_of_beq_eq_true hc
       subst hc
       cases hf:es.find? (fun e=>Nat.beq e.2.2 st) with
       | none=>exact trivial
       | some x=>
        obtain⟨k,v,c⟩:=x
        obtain⟨K,V,hfe,hk,hv⟩:=vw hE hf
        have hback:(⟨seen⟩:Array Nat).back?=some st:=by rw [Array.back?_eq_getElem?];rw [List.getLast?_eq_getElem?] at hl;simpa using hl
        have hfe':E.find? (·.born == st)=some { key:=K,val:=V,born:=c }:=by rw [←Array.find?_toList];exact hfe
        refine au hs (.tup [k,v] [K,V] (.cons _ _ _ _ hk (.cons _ _ _ _ hv .nil))) ?_
        simp [Instr.entry,ai hO (by simp),ai hOm (by simp),hback,hfe']
     | _=>exact trivial
  | smiter m all seen sk=>
   have hbase:=hr.2.1
   rw [ho,hbase]
   exact yt hs hb ho
  | _=>rw [ho];exact trivial
 | _=>exact trivial
end
end Go.VM
namespace Go.VM
section
variable {P:Program} {w0:Base} {ρ:Rho} {h:Heap} {w:World}
def uO(ρ:Rho):Option AV→Option Value→Prop
 | none,none=>True
 | some a,some A=>Rel ρ a A
 | _,_=>False
def BIs(X:Option Value)(n dflt most:Nat):Prop:=match X with | none=>n=dflt | some V=>n≤most∧∃ kd,V=.int kd (Int.ofNat n)
theorem BIs.weaken{X:Option Value}{n d m m':Nat}(hb:BIs X n d m)(hm:m≤m'):BIs X n d m':=by
 cases X with
 | none=>exact hb
 | some V=>exact⟨Nat.le_trans hb.1 hm,hb.2⟩
theorem BIs.le{X:Option Value}{n d m:Nat}(hb:BIs X n d m)(hm:d≤m):n≤m:=by
 cases X with
 | none=>have:n=d:=hb;omega
 | some V=>exact hb.1
theorem dV{x:Option AV}{X:Option Value}(hx:uO ρ x X){dflt most:Nat}{k:Nat→Res}{s:Sem Value}
  (hk:∀ n,BIs X n dflt most→ValOk P w0 ρ h w s (k n)):ValOk P w0 ρ h w s (bnd x dflt most k):=by
 unfold bnd D9
 cases x with
 | none=>cases X with
  | none=>exact hk dflt rfl
  | some V=>exact hx.elim
 | some a=>cases X with
  | none=>exact hx.elim
  | some V=>
   cases hx with
   | int kd n=>
    cases n with
    | ofNat n=>
     dsimp only
     cases hb:Nat.ble n most with
     | false=>exact trivial
     | true=>exact hk n ⟨Nat.le_of_ble_eq_true hb,kd,rfl⟩
    | negSucc n=>exact trivial
   | _=>exact trivial
theorem bi{k:IntKind}{n y:Nat}{c:BoundsCode}(hn:n≤y):(Instr.sliceBound (.int k ((n:Nat):Int)) y c).run P w=.ok n w:=by
 have:(0:Int)≤(n:Int)∧(n:Int)≤(y:Int):=by omega
 simp [Instr.sliceBound,asIntOf,hn]
theorem bX{isS:Bool}{len cap:Nat}{lo hi mx:Option Value}{m hh l:Nat}
  (hm:BIs mx m cap cap)
  (hhi:BIs hi hh len m)
  (hlo:BIs lo l 0 hh)
  (hno:mx.isSome=true→hi.isSome=true):(Instr.sliceBounds isS len cap lo hi mx).run P w=.ok (l,hh,m) w:=by
 cases mx with
 | none=>
  dsimp only [BIs] at hm
  subst hm
  cases hi with
  | none=>
   dsimp only [BIs] at hhi;subst hhi
   cases lo with
   | none=>dsimp only [BIs] at hlo;subst hlo;simp [Instr.sliceBounds]
   | some V=>obtain⟨h1,kd,rfl⟩:=hlo;simp [Instr.sliceBounds,bi h1]
  | some H=>
   obtain⟨h2,kd2,rfl⟩:=hhi
   cases lo with
   | none=>dsimp only [BIs] at hlo;subst hlo;simp [Instr.sliceBounds,bi h2]
   | some V=>obtain⟨h1,kd,rfl⟩:=hlo;simp [Instr.sliceBounds,bi h1,bi h2]
 | some M=>
  obtain⟨h3,kd3,rfl⟩:=hm
  cases hi with
  | none=>simp at hno
  | some H=>
   obtain⟨h2,kd2,rfl⟩:=hhi
   cases lo with
   | none=>dsimp only [BIs] at hlo;subst hlo;simp [Instr.sliceBounds,bi h2,bi h3]
   | some V=>obtain⟨h1,kd,rfl⟩:=hlo;simp [Instr.sliceBounds,bi h1,bi h2,bi h3]
theorem vx(code l n:Nat):pe code l n=code / 256 ^ l % 256 ^ n:=by
 unfold pe
 show (code >>> (8 * l)) % 2 ^ (8 * n)=_
 rw [Nat.shiftRight_eq_div_pow,Nat.pow_mul,Nat.pow_mul]
theorem uQ{len code l hh:Nat}(h1:l≤hh)(h2:hh≤len):(strOf len code).extract l hh=strOf (hh - l) (pe code l (hh - l)):=by
 apply ByteArray.ext
 rw [ByteArray.data_extract]
 apply Array.ext'
 show ((⟨ac len code⟩:Array UInt8).extract l hh).toList=ac (hh - l) (pe code l (hh - l))
 rw [vx]
 have e1:=lc l (len - l) code
 rw [show l+(len - l)=len by omega] at e1
 have e2:=gf (hh - l) (len - hh) (code / 256 ^ l)
 rw [show hh - l+(len - hh)=len - l by omega] at e2
 rw [←e2,←e1]
 simp
theorem rk(hs:Sim w0 ρ h w){size:Nat}{b:Key}{L:Loc}{off len c:Nat}{lo hi mx:Option AV}{Lo Hi Mx:Option Value}(hb:ρ b=some L)(hl:uO ρ lo Lo)(hh:uO ρ hi Hi)(hm:uO ρ mx Mx){s:Sem Value}
  (hrun:∀ l r m,(∀ isS,(Instr.sliceBounds isS len c Lo Hi Mx).run P w=.ok (l,r,m) w)→s.run P w=.ok (.slice (some (if m=l then ⟨L.B,L.base+off,none⟩ else (⟨L.B,L.base+off,none⟩:Addr).add (l * size))) (r - l) (m - l)) w):
  ValOk P w0 ρ h w s (sliceIs size b off len c lo hi mx h):=by
 unfold sliceIs
 refine aa (fun _=>trivial) (fun hmh=>?_)
 refine dV hm fun m hm'=>?_
 have hno:Mx.isSome=true→Hi.isSome=true:=by
  intro e
  cases Mx with
  | none=>cases e
  | some M=>cases mx with
   | none=>exact hm.elim
   | some _=>cases Hi with
    | some _=>rfl
    | none=>cases hi with
     | some _=>exact hh.elim
     | none=>simp at hmh
 refine dV hh fun r hr=>?_
 refine dV hl fun l hl'=>?_
 rw [af,af,af]
 have hb3:∀ isS,(Instr.sliceBounds isS len c Lo Hi Mx).run P w=.ok (l,r,m) w:=by
  intro isS
  refine bX hm' ?_ hl' hno
  cases Hi with
  | some _=>exact hr
  | none=>cases mx with
   | none=>exact hr
   | some _=>cases Mx with
    | none=>exact hm.elim
    | some _=>simp at hno
 have:=hrun l r m hb3
 cases hml:Nat.beq m l with
 | true=>
  have hml':=Nat.eq_of_beq_eq_true hml
  rw [if_pos hml'] at this
  exact au hs (.sliceIs b off (r - l) (m - l) L hb) this
 | false=>
  have hml':m≠l:=by intro e;subst e;simp at hml
  rw [if_neg hml',eW] at this
  exact au hs (.sliceIs b (off+l * size) (r - l) (m - l) L hb) this
theorem vy(_hP:TypesOk P)(hs:Sim w0 ρ h w){t:Nat}{v:AV}{V:Value}{lo hi mx:Option AV}{Lo Hi Mx:Option Value}(hv:Rel ρ v V)(hl:uO ρ lo Lo)(hh:uO ρ hi Hi)(hm:uO ρ mx Mx):
  ValOk P w0 ρ h w (Instr.sliceAt t V Lo Hi Mx) (m8 P t v lo hi mx h):=by
 have mxn:mx=none→Mx=none:=by
  intro e;subst e
  cases Mx with
  | none=>rfl
  | some _=>exact hm.elim
 unfold m8
 cases hu:P.underlying t with
 | none=>cases hv<;>first | exact trivial | (rename_i hc1 hc2;exact trivial) 
 | some d=>
  cases hv with
  | str len code hc=>
   cases d with
   | string=>cases mx with
    | some _=>exact trivial
    | none=>
     have hM:=mxn rfl
     subst hM
     dsimp only
     refine dV hh fun r hr=>?_
     refine dV hl fun l hl'=>?_
     unfold strV
     rw [af,af]
     refine aa (fun _=>?_) (fun _=>trivial)
     have hrl:r≤len:=hr.le (Nat.le_refl _)
     have hll:l≤r:=hl'.le (Nat.zero_le _)
     have hb3:=bX (P:=P) (w:=w) (isS:=false) (len:=len) (cap:=len) (mx:=none) (m:=len) rfl hr (by first | exact hl' | exact hl'.weaken (Nat.zero_le _)) (by simp)
     refine au hs (.str (r - l) (pe code l (r - l)) (by rw [vx];exact Nat.mod_lt _ (Nat.pow_pos (by decide)))) ?_
     simp only [Instr.sliceAt,Sem.run_bind,a8 hu,Result.andThen_ok,Instr.slice,aI]
     simp [hb3,uQ hll hrl]
   | _=>cases mx<;>exact trivial
  | ustr len s hsz=>
   cases d with
   | string=>cases mx with
    | some _=>exact trivial
    | none=>
     have hM:=mxn rfl
     subst hM
     dsimp only
     refine dV hh fun r hr=>?_
     refine dV hl fun l hl'=>?_
     rw [af]
     have hrl:r≤len:=hr.le (Nat.le_refl _)
     have hll:l≤r:=hl'.le (Nat.zero_le _)
     have hb3:=bX (P:=P) (w:=w) (isS:=false) (len:=len) (cap:=len) (mx:=none) (m:=len) rfl hr (by first | exact hl' | exact hl'.weaken (Nat.zero_le _)) (by simp)
     refine au hs (.ustr (r - l) (s.extract l r) (by rw [ByteArray.size_extract];omega)) ?_
     simp only [Instr.sliceAt,Sem.run_bind,a8 hu,Result.andThen_ok,Instr.slice,hsz]
     simp [hb3]
   | _=>cases mx<;>exact trivial
  | nilSlice=>
   cases d with
   | slice e=>cases mx with
    | some _=>exact trivial
    | none=>
     have hM:=mxn rfl
     subst hM
     dsimp only
     refine aa (fun _=>trivial) (fun hp=>?_)
     obtain⟨i,hi'⟩:=cy (P:=P) (e:=e) (by simpa using hp)
     refine dV hh fun r hr=>?_
     refine dV hl fun l hl'=>?_
     have hr0:r=0:=Nat.le_zero.1 (hr.le (Nat.le_refl _))
     subst hr0
     have hb3:=bX (P:=P) (w:=w) (isS:=true) (len:=0) (cap:=0) (mx:=none) (m:=0) rfl hr (by first | exact hl' | exact hl'.weaken (Nat.zero_le _)) (by simp)
     have hl0:l=0:=by have:=hl'.le (Nat.zero_le _);omega
     subst hl0
     refine au hs .nilSlice ?_
     simp [Instr.sliceAt,a8 hu,Instr.slice,hb3,ay hi']
   | _=>cases mx<;>exact trivial
  | emptyS a c=>
   cases d with
   | slice e=>cases mx with
    | some _=>exact trivial
    | none=>
     have hM:=mxn rfl
     subst hM
     dsimp only
     refine aa (fun _=>trivial) (fun hp=>?_)
     obtain⟨i,hi'⟩:=cy (P:=P) (e:=e) (by simpa using hp)
     refine dV hh fun r hr=>?_
     refine dV hl fun l hl'=>?_
     have hr0:r=0:=Nat.le_zero.1 (hr.le (Nat.le_refl _))
     have hr':=hr.weaken (m':=c) (by omega)
     have hb3:=bX (P:=P) (w:=w) (isS:=true) (len:=0) (cap:=c) (mx:=none) (m:=c) rfl hr' (by first | exact hl' | exact hl'.weaken (Nat.zero_le _)) (by simp)
     have hl0:l=0:=by have:=hl'.le (Nat.zero_le _);omega
     subst hr0;subst hl0
     refine au hs (.emptyS (if c=0 then a else a.add (0 * i.size)) c) ?_
     simp only [Instr.sliceAt,Sem.run_bind,a8 hu,Result.andThen_ok,Instr.slice,hb3,ay hi',Sem.run_pure]
     by_cases h0:c=0<;>simp [h0]
   | _=>cases mx<;>exact trivial
  | sliceIs b off len c L hb=>
   cases d with
   | slice e=>
    dsimp only
    refine aa (fun hp=>?_) (fun _=>trivial)
    obtain⟨i,hi'⟩:=cy hp
    refine rk hs hb hl hh hm fun l r m hb3=>?_
    rw [bj hi']
    simp only [Instr.sliceAt,Sem.run_bind,a8 hu,Result.andThen_ok,Instr.slice,hb3 true,ay hi',Sem.run_pure]
    split<;>rfl
   | _=>exact trivial
  | sliceMore b off len c sz L hb h1 h2=>
   cases d with
   | slice e=>cases mx with
    | some _=>exact trivial
    | none=>
     have hM:=mxn rfl
     subst hM
     dsimp only
     refine aa (fun hp=>?_) (fun _=>trivial)
     rw [Bool.and_eq_true] at hp
     obtain⟨i,hi'⟩:=cy hp.1
     have hsz:=Nat.eq_of_beq_eq_true hp.2
     rw [bj hi'] at hsz
     unfold sliceMore
     refine dV hh fun r hr=>?_
     refine dV hl fun l hl'=>?_
     have hrl:r≤len:=hr.le (Nat.le_refl _)
     have hll:l≤r:=hl'.le (Nat.zero_le _)
     have hr':=hr.weaken (m':=c) (by omega)
     have hb3:=bX (P:=P) (w:=w) (isS:=true) (len:=len) (cap:=c) (mx:=none) (m:=c) rfl hr' (by first | exact hl' | exact hl'.weaken (Nat.zero_le _)) (by simp)
     have hrun:(Instr.sliceAt t (.slice (some ⟨L.B,L.base+off,none⟩) len c) Lo Hi none).run P w=.ok (.slice (some (if c=l then ⟨L.B,L.base+off,none⟩ else (⟨L.B,L.base+off,none⟩:Addr).add (l * i.size))) (r - l) (c - l)) w:=by
      simp only [Instr.sliceAt,Sem.run_bind,a8 hu,Result.andThen_ok,Instr.slice,hb3,ay hi',Sem.run_pure]
      split<;>rfl
     refine aa (fun h0=>?_) (fun h0=>?_)
     ·have h0:=Nat.eq_of_beq_eq_true h0
      subst h0
      refine au hs (.sliceMore b off r c sz L hb (by omega) h2) ?_
      rw [hrun]
      have:(if c=0 then (⟨L.B,L.base+off,none⟩:Addr) else (⟨L.B,L.base+off,none⟩:Addr).add (0 * i.size))=⟨L.B,L.base+off,none⟩:=by
       split
       ·rfl
       ·rw [eW];simp
      rw [this];simp
     ·refine aa (fun hlt=>?_) (fun hge=>?_)
      ·have hlt:=cb hlt
       rw [af,af]
       have hne:c≠l:=by omega
       refine au hs (.sliceMore b (off+l * sz) (r - l) (c - l) sz L hb (by omega) ?_) ?_
       ·rw [←h2]
        have:c * sz=l * sz+(c - l) * sz:=by rw [←Nat.add_mul];congr 1;omega
        omega
       ·rw [hrun,if_neg hne,eW,hsz]
      ·have hge:¬ l < len:=by intro e;rw [←Nat.blt_eq] at e;rw [hge] at e;cases e
       refine au hs (.emptyS (if c=l then ⟨L.B,L.base+off,none⟩ else (⟨L.B,L.base+off,none⟩:Addr).add (l * i.size)) (c - l)) ?_
       rw [hrun]
       congr 2
       omega
   | _=>cases mx<;>exact trivial
  | ptr b off L hb=>
   cases d with
   | array n e=>
    dsimp only
    refine aa (fun hp=>?_) (fun _=>trivial)
    obtain⟨i,hi'⟩:=cy hp
    refine rk hs hb hl hh hm fun l r m hb3=>?_
    rw [bj hi']
    simp only [Instr.sliceAt,Sem.run_bind,a8 hu,Result.andThen_ok,Instr.sureAddr,Sem.run_pure,hb3 false,ay hi']
   | _=>exact trivial
  | _=>exact trivial
end
end Go.VM
