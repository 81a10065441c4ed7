/- The evaluator's operations do what the model's do, third part. No conditions: a library text of the proof. -/
import Derived.Test.YtooelpaaidnhiaaGreatDoorVB
import Derived.Laws.BytesString
import Derived.Laws.IdiomStrings
import Derived.Lib.UnsafeStr
namespace Go.VM
section
variable {P:Program} {w0:Base} {ρ:Rho} {h:Heap} {w:World}
theorem il:∀ (n c:Nat),RelL ρ (az n c) ((ac n c).map fun b=>.int .u8 b.toNat)
 | 0,_=>.nil
 | n+1,c=>by
  simp only [az,ac,List.map_cons]
  have:Int.ofNat (c % 256)=((UInt8.ofNat c).toNat:Int):=by simp
  rw [this]
  exact .cons _ _ _ _ (.int _ _) (il n (c / 256))
theorem bq:∀ (n c:Nat),(az n c).length=n
 | 0,_=>rfl
 | n+1,c=>by simp [az,bq n]
theorem eY{b:Key}{off n m:Nat}{cs:List AV}(hc:aW h b off n=some cs)(hm:m≤n):cs.length=n∧aW h b off m=some (cs.take m):=by
 unfold aW at hc ⊢
 cases hg:cellsOf (h.get b) with
 | none=>rw [hg] at hc;cases hc
 | some all=>
  rw [hg] at hc
  simp only [bU,bB,aG] at hc ⊢
  cases hl:Nat.beq ((all.drop off).take n).length n with
  | false=>rw [hl] at hc;cases hc
  | true=>
   rw [hl] at hc
   have hcs:(all.drop off).take n=cs:=by simpa using hc
   have hlen:((all.drop off).take n).length=n:=Nat.eq_of_beq_eq_true hl
   subst hcs
   refine⟨hlen,?_⟩
   have e1:((all.drop off).take n).take m=(all.drop off).take m:=by rw [List.take_take];congr 1;omega
   rw [e1]
   have e2:((all.drop off).take m).length=m:=by rw [←e1,List.length_take,hlen];omega
   rw [show Nat.beq ((all.drop off).take m).length m=true by rw [e2];simp]
   rfl
theorem lg(hs:Sim w0 ρ h w){b:Key}{L:Loc}(hb:ρ b=some L)(off:Nat):
  ∃ D:List Value,∀ n cs,aW h b off n=some cs→RelL ρ cs (D.take n)∧∀ w':World,w'.heap=w.heap→(loadCells ⟨L.B,L.base+off,none⟩ n).run P w'=.ok (D.take n).toArray w':=by
 cases hg:cellsOf (h.get b) with
 | none=>exact⟨[],fun n cs hc=>by unfold aW at hc;rw [hg] at hc;cases hc⟩
 | some all=>
  obtain⟨C,e,q,hO,hC⟩:=oD hs hb hg
  refine⟨(List.take all.length (C.toList.drop L.base)).drop off,fun n cs hc=>?_⟩
  unfold aW at hc
  rw [hg] at hc
  simp only [bU,bB,aG] at hc
  cases hl:Nat.beq ((all.drop off).take n).length n with
  | false=>rw [hl] at hc;cases hc
  | true=>
   rw [hl] at hc
   have hcs:(all.drop off).take n=cs:=by simpa using hc
   have hlen:((all.drop off).take n).length=n:=Nat.eq_of_beq_eq_true hl
   subst hcs
   have hr:=(hC.2.drop off).take n
   refine⟨hr,fun w' hw'=>?_⟩
   unfold loadCells
   rw [fL n 0 #[] _ (by rw [hr.length];exact hlen)]
   ·simp
   ·intro j V hV
    have hj:((List.take all.length (C.toList.drop L.base)).drop off)[j]?=some V:=by
     rw [List.getElem?_take] at hV
     split at hV
     ·exact hV
     ·cases hV
    rw [List.getElem?_drop,List.getElem?_take] at hj
    split at hj
    ·rw [List.getElem?_drop] at hj
     simp only [World.cell?,hw',hO]
     rw [show L.base+off+(0+j)=L.base+(off+j) by omega]
     simpa using hj
    ·cases hj
def lh(j:Nat):List Nat→List Nat→Option Nat
 | e::ds,c::cs=>cond (Nat.beq j e) (some c) (lh j ds cs)
 | _,_=>none
theorem mD{l j:Nat}:∀ {ds:List Nat} {vs:List AV} {cs:List Nat},kR l vs=some cs→(aQ j ds vs).plain=true→∃ c,lh j ds cs=some c∧aQ j ds vs=.str l c
 | [],vs,cs,_,hp=>by cases vs<;>cases hp
 | _::_,[],cs,_,hp=>by cases hp
 | d::ds,v::vs,cs,h,hp=>by
  unfold kR at h
  cases v with
  | str m c=>
   dsimp only at h
   cases hm:Nat.beq l m with
   | false=>rw [hm] at h;cases h
   | true=>
    rw [hm,cond_true] at h
    obtain rfl:=Nat.eq_of_beq_eq_true hm
    cases hc:kR l vs with
    | none=>rw [hc] at h;cases h
    | some cs'=>
     rw [hc] at h
     injection h with h;subst h
     unfold aQ at hp ⊢
     unfold lh
     cases hd:Nat.beq j d with
     | true=>exact⟨c,rfl,rfl⟩
     | false=>rw [hd] at hp;exact mD hc hp
  | _=>cases h
theorem oq{j c:Nat}:∀ {ds cs:List Nat},lh j ds cs=some c→aQ j ds (nE cs)=.int .u8 (Int.ofNat (c % 256))
 | [],_,h=>by cases h
 | _::_,[],h=>by cases h
 | d::ds,x::cs,h=>by
  unfold lh at h
  unfold nE aQ
  cases hd:Nat.beq j d with
  | true=>rw [hd] at h;injection h with h;subst h;rfl
  | false=>rw [hd] at h;exact oq h
theorem rl{j c:Nat}:∀ {ds cs:List Nat},lh j ds cs=some c→lh j ds (zI cs)=some (c / 256)
 | [],_,h=>by cases h
 | _::_,[],h=>by cases h
 | d::ds,x::cs,h=>by
  unfold lh at h
  unfold zI lh
  cases hd:Nat.beq j d with
  | true=>rw [hd] at h;injection h with h;subst h;rfl
  | false=>rw [hd] at h;exact rl h
theorem mE{b:Key}{L:Loc}(hb:ρ b=some L){ds:List Nat}:∀ (n:Nat) {cs:List Nat} {c:Nat},lh L.base ds cs=some c→RelL ρ (jB b ds n cs) ((ac n c).map fun b=>.int .u8 b.toNat)
 | 0,_,_,_=>.nil
 | n+1,cs,c,h=>by
  simp only [ac,List.map_cons]
  have e:Int.ofNat (c % 256)=((UInt8.ofNat c).toNat:Int):=by simp
  refine .cons _ _ _ _ (.tab b ds _ L _ hb ?_ ?_) ?_
  ·rw [oq h];rfl
  ·rw [oq h,e];exact .int _ _
  ·exact mE hb n (rl h)
theorem mF{b:Key}{ds:List Nat}:∀ (n:Nat) {cs:List Nat},(jB b ds n cs).length=n
 | 0,_=>rfl
 | n+1,cs=>by show (jB b ds n (zI cs)).length+1=_;rw [mF]
theorem rm{ρ:Rho}:∀ zs:List UInt8,RelL ρ (rep zs.length [.byte]) (zs.map fun b=>.int .u8 (b.toNat:Int))
 | []=>.nil
 | z::zs=>.cons _ _ _ _ (.byte z) (rm zs)
theorem ro:∀ n:Nat,(rep n [AV.byte]).length=n
 | 0=>rfl
 | n+1=>by show (rep n [AV.byte]).length+1=_;rw [ro]
theorem de(hs:Sim w0 ρ h w){v:AV}{V:Value}(hv:Rel ρ v V){size:Nat}{k:Nat→List AV→Res}{s:Sem Value}
  (hk:∀ n cs Cs,RelL ρ cs Cs→cs.length=n * size→(∀ w',(Builtin.lenOf V).run P w'=.ok n w')→(∀ m,m≤n→∀ w',w'.heap=w.heap→(Builtin.firstCells size m V).run P w'=.ok (Cs.take (m * size)).toArray w')→ValOk P w0 ρ h w s (k n cs)):
  ValOk P w0 ρ h w s (sliceCells h size k v):=by
 have slc:∀ (b:Key) (off len:Nat) (cap:ACap) (c:Nat) (L:Loc),ρ b=some L→V=.slice (some ⟨L.B,L.base+off,none⟩) len c→ValOk P w0 ρ h w s (sliceCells h size k (.slice b off len cap)):=by
  intro b off len cap c L hb hV
  dsimp only [sliceCells]
  obtain⟨D,hD⟩:=lg (P:=P) hs hb off
  cases hc:aW h b off (len * size) with
  | none=>exact trivial
  | some cs=>
   obtain⟨hlen,_⟩:=eY hc (Nat.le_refl _)
   refine hk len cs _ (hD _ _ hc).1 hlen (fun w'=>by rw [hV];rfl) ?_
   intro m hm w' hw'
   obtain⟨_,hc'⟩:=eY hc (Nat.mul_le_mul_right size hm)
   rw [hV]
   simp only [Builtin.firstCells]
   rw [(hD _ _ hc').2 w' hw',List.take_take]
   congr 3
   have:=Nat.mul_le_mul_right size hm
   omega
 cases hv with
 | nilSlice=>exact hk 0 [] [] .nil (by simp) (fun _=>rfl) (fun m hm w' hw'=>by simp [Builtin.firstCells])
 | emptyS a c=>exact hk 0 [] [] .nil (by simp) (fun _=>rfl) (fun m hm w' hw'=>by
   have:m=0:=by omega
   subst this
   simp [Builtin.firstCells,loadCells,loadCellsFrom])
 | sliceIs b off len c L hb=>exact slc b off len _ c L hb rfl
 | sliceMore b off len c sz L hb _ _=>exact slc b off len _ c L hb rfl
 | str l c hc=>
  refine aa (fun h1=>?_) (fun _=>trivial)
  have h1:=Nat.eq_of_beq_eq_true h1
  subst h1
  refine hk l _ _ (il l c) (by rw [bq];omega) (fun w'=>by simp [Builtin.lenOf,aI]) ?_
  intro m hm w' hw'
  simp only [Builtin.firstCells,Sem.run_pure,Nat.mul_one]
  congr 1
  rw [ByteArray.data_extract]
  apply Array.ext'
  show (((⟨ac l c⟩:Array UInt8).extract 0 m).map fun b=>Value.int .u8 b.toNat).toList=_
  simp [List.map_take]
 | ustr l x hx=>
  refine aa (fun h1=>aa (fun _=>?_) (fun _=>trivial)) (fun _=>trivial)
  have h1:=Nat.eq_of_beq_eq_true h1
  subst h1
  have hl:x.data.toList.length=l:=by rw [←hx];rfl
  refine hk l _ (x.data.toList.map fun b=>.int .u8 (b.toNat:Int)) (by rw [←hl];exact rm _) (by rw [ro];omega) (fun w'=>by simp [Builtin.lenOf,hx]) ?_
  intro m hm w' hw'
  simp only [Builtin.firstCells,Sem.run_pure,Nat.mul_one]
  congr 1
  rw [ByteArray.data_extract]
  apply Array.ext'
  simp
 | tab b ds vs L V hb hp hr=>
  show ValOk P w0 ρ h w s (nF b ds vs size k)
  unfold nF
  split
  ·rename_i l c0 r
   cases hc:kR l (.str l c0::r) with
   | none=>exact trivial
   | some cs=>
    refine aa (fun h1=>?_) (fun _=>trivial)
    have h1:=Nat.eq_of_beq_eq_true h1
    subst h1
    obtain⟨c,h2,h3⟩:=mD hc hp
    rw [h3] at hr
    cases hr with
    | str _ _ hlt=>
     refine hk l _ _ (mE hb l h2) (by rw [mF];omega) (fun w'=>by simp [Builtin.lenOf,aI]) ?_
     intro m hm w' hw'
     simp only [Builtin.firstCells,Sem.run_pure,Nat.mul_one]
     congr 1
     rw [ByteArray.data_extract]
     apply Array.ext'
     show (((⟨ac l c⟩:Array UInt8).extract 0 m).map fun b=>Value.int .u8 b.toNat).toList=_
     simp [List.map_take]
  ·exact trivial
 | _=>exact trivial
theorem wH(a b:Nat):min a b=Nat.min a b:=rfl
theorem ot(hs:Sim w0 ρ h w){d:AV}{D X:Value}{n e t ty:Nat}{ts:Array Nat}{i:TypeInfo}{cs:List AV}{Cs:List Value}(ht:ts[0]?=some t)(hu:P.underlying t=some (.slice e))(hi:P.info? e=some i)(hd:Rel ρ d D)
  (hr:RelL ρ cs Cs) (_hlen:cs.length=n * i.size) (hl:(Builtin.lenOf X).run P w=.ok n w) (hf:∀ m,m≤n→(Builtin.firstCells i.size m X).run P w=.ok (Cs.take (m * i.size)).toArray w):
  ValOk P w0 ρ h w (Builtin.copy_ ts ty #[D,X]) (gp i.size d n cs h):=by
 have base:∀ (dst:Option Addr) (dl c:Nat),D=.slice dst dl c→∀ w',(match dst with | none=>w'=w | some a=>(storeCells a (Cs.take (min n dl * i.size))).run P w=.ok () w')→(Builtin.copy_ ts ty #[D,X]).run P w=.ok (.int .i64 (Int.ofNat (min n dl))) w':=by
  intro dst dl c hD w' hw'
  subst hD
  have hfm:=hf (Nat.min n dl) (Nat.min_le_left _ _)
  cases dst with
  | none=>
   dsimp only at hw'
   subst hw'
   simp [Builtin.copy_,ht,a8 hu,hl,ay hi,hfm,goInt,wH]
  | some a=>
   dsimp only at hw'
   simp only [wH] at hw'
   simp [Builtin.copy_,ht,a8 hu,hl,ay hi,hfm,goInt,hw',wH]
 have slc:∀ (b:Key) (off dl:Nat) (cap:ACap) (c:Nat) (L:Loc),ρ b=some L→D=.slice (some ⟨L.B,L.base+off,none⟩) dl c→ValOk P w0 ρ h w (Builtin.copy_ ts ty #[D,X]) (gp i.size (.slice b off dl cap) n cs h):=by
  intro b off dl cap c L hb hD
  dsimp only [gp]
  cases hset:bo h b off (take (min n dl * i.size) cs) with
  | none=>exact trivial
  | some h'=>
   rw [bU] at hset
   obtain⟨w',hrun,hsim,hk⟩:=eD (P:=P) hs hb (hr.take (min n dl * i.size)) hset
   exact⟨ρ,_,w',Sub.refl _,hk,hsim,.int .i64 _,base (some ⟨L.B,L.base+off,none⟩) dl c hD w' hrun⟩
 cases hd with
 | nilSlice=>exact au hs (v:=.int .i64 0) (.int .i64 0) (by have:=base none 0 0 rfl w rfl;rw [Nat.min_zero] at this;exact this)
 | emptyS a c=>exact au hs (v:=.int .i64 0) (.int .i64 0) (by have:=base (some a) 0 c rfl w (by simp [storeCells]);rw [Nat.min_zero] at this;exact this)
 | sliceIs b off len c L hb=>exact slc b off len _ c L hb rfl
 | sliceMore b off len c sz L hb _ _=>exact slc b off len _ c L hb rfl
 | _=>exact trivial
end
end Go.VM
namespace Go.VM
section
variable {P:Program} {w0:Base} {ρ:Rho} {h:Heap} {w:World}
theorem fJ:∀ {cs:List AV} {Cs:List Value},RelL ρ cs Cs→aM cs=true→∃ ns:List UInt8,Cs=ns.map (fun b=>.int .u8 (b.toNat:Int))∧aB cs=aZ ns∧ns.length=cs.length
 | _,_,.nil,_=>⟨[],rfl,rfl,rfl⟩
 | _,_,.cons v V r R hv hr,hb=>by
  cases hv with
  | int k n=>
   cases n with
   | negSucc n=>cases k<;>simp [aM] at hb
   | ofNat n=>
    cases k<;>simp [aM] at hb
    obtain⟨h1,h2⟩:=hb
    obtain⟨ns,e1,e2,e3⟩:=fJ hr h2
    refine⟨UInt8.ofNat n::ns,?_,?_,by simp [e3]⟩
    ·rw [e1];simp;omega
    ·simp only [aB,aZ,e2];congr 1;simp;omega
  | _=>simp [aM] at hb
theorem lI(ns:List UInt8):∀ s:ByteArray,(ns.map (fun b=>(b.toNat:Int))).foldl (fun r (n:Int)=>r.push (UInt8.ofNat n.toNat)) s=⟨⟨s.data.toList++ns⟩⟩:=by
 induction ns with
 | nil=>intro s;simp
 | cons b ns ih=>
  intro s
  simp only [List.map_cons,List.foldl_cons]
  rw [ih]
  simp
theorem im(ns:List UInt8):(⟨⟨ns⟩⟩:ByteArray)=strOf ns.length (aZ ns):=by
 have:=rP ⟨⟨ns⟩⟩
 exact this.symm
theorem pI{e:Nat}(he:dK P e=true):P.underlying e=some (.int .u8):=by
 unfold dK at he
 cases hu:P.underlying e with
 | none=>simp [hu] at he
 | some d=>
  cases d with
  | int k=>cases k<;>simp [hu] at he;rfl
  | _=>simp [hu] at he
theorem li{b:Key}{l:Nat}{cs:List AV}:∀ {ds:List Nat} {rs:List AV},jE b l cs ds=some rs→∀ d ∈ ds,aM (aT b d cs)=true∧aQ d ds rs=.str l (aB (aT b d cs))
 | [],_,_,_,hd=>by cases hd
 | e::ds,rs,h,d,hd=>by
  unfold jE at h
  cases ha:aM (aT b e cs) with
  | false=>rw [ha] at h;cases h
  | true=>
   rw [ha,cond_true] at h
   cases hr:jE b l cs ds with
   | none=>rw [hr] at h;cases h
   | some vs=>
    rw [hr] at h
    injection h with h;subst h
    unfold aQ
    cases hde:Nat.beq d e with
    | true=>rw [Nat.eq_of_beq_eq_true hde];exact⟨ha,rfl⟩
    | false=>
     cases hd with
     | head=>rw [Nat.beq_refl] at hde;cases hde
     | tail _ hd=>exact li hr d hd
theorem mG{b:Key}{l:Nat}{cs:List AV}{ds:List Nat}{rs:List AV}(h:nN b l cs ds=some rs)(d:Nat)(hd:d ∈ ds):aM (aT b d cs)=true∧aQ d ds rs=.str l (aB (aT b d cs)):=by
 unfold nN at h
 cases hz:cI (xw l) b ds cs with
 | none=>rw [hz] at h;exact li h d hd
 | some xs=>
  rw [hz] at h
  have h:some xs=some rs:=h
  injection h with h;subst h
  have:=ol hz d hd
  unfold xw at this
  cases ha:aM (aT b d cs) with
  | false=>rw [ha] at this;cases this
  | true=>
   rw [ha] at this
   have this:some (AV.str l (aB (aT b d cs)))=some (aQ d ds xs):=this
   injection this with this
   exact⟨rfl,this.symm⟩
theorem gh(hs:Sim w0 ρ h w){src dst e:Nat}{v:AV}{V:Value}(hu1:P.underlying src=some (.slice e))(hu2:P.underlying dst=some .string)(he:dK P e=true)(hv:Rel ρ v V)(hns:∀ l c,v≠.str l c)(hnt:∀ b ds vs,v≠.tab b ds vs)(hnu:∀ l,v≠.ustr l):
  ValOk P w0 ρ h w (convert src dst V) (sliceCells h 1 (fun l cs=>cond (aM cs) (strV l (aB cs) h) (tabConv l cs h)) v):=by
 have hue:=pI he
 by_cases hj:v=.junk
 ·subst hj;exact trivial
 by_cases ht:∃ b ds vs,v=.tab b ds vs
 ·obtain⟨b,ds,vs,rfl⟩:=ht;exact absurd rfl (hnt b ds vs)
 by_cases hu:∃ l,v=.ustr l
 ·obtain⟨l,rfl⟩:=hu;exact absurd rfl (hnu l)
 refine de hs hv fun n cs0 Cs hr0 hlen0 hl0 hf0=>?_
 have run:∀ cs,RelL ρ cs Cs→cs.length=n * 1→aM cs=true→aB cs < 256 ^ n∧(convert src dst V).run P w=.ok (.string (strOf n (aB cs))) w:=by
  intro cs hr hlen hb
  have hl:=hl0
  have hf:=hf0
  obtain⟨ns,e1,e2,e3⟩:=fJ hr hb
  have hn:n=ns.length:=by omega
  rw [e2]
  have hlt:=dD ns
  refine⟨by rw [hn];exact hlt,?_⟩
  have hstr:(⟨⟨ns⟩⟩:ByteArray)=strOf n (aZ ns):=by rw [hn];exact im ns
  rw [←hstr]
  have hfull:=hf n (Nat.le_refl _) w rfl
  have hl:=hl w
  have htake:Cs.take (n * 1)=Cs:=by rw [List.take_of_length_le];rw [hr.length,hlen];omega
  rw [htake,e1] at hfull
  cases hv with
  | nilSlice=>
   have h0:ns=[]:=by
    have:(Builtin.lenOf (.slice none 0 0)).run P w=.ok 0 w:=rfl
    rw [this] at hl
    have:n=0:=by injection hl with a _;exact a.symm
    subst this
    exact List.eq_nil_of_length_eq_zero hn.symm
   subst h0
   rw [run_convert_bytes_string w src dst e none 0 0 hu1 hue hu2]
   rfl
  | emptyS a c=>
   rw [run_convert_bytes_string w src dst e _ _ _ hu1 hue hu2]
   have:(Builtin.lenOf (.slice (some a) 0 c)).run P w=.ok 0 w:=rfl
   rw [this] at hl
   have h0:n=0:=by injection hl with a _;exact a.symm
   subst h0
   have h0:ns=[]:=List.eq_nil_of_length_eq_zero hn.symm
   subst h0
   rw [run_bytesToString w a 0 c [] (by simp [loadCells,loadCellsFrom])]
   rfl
  | sliceIs b off len c L hb'=>
   rw [run_convert_bytes_string w src dst e _ _ _ hu1 hue hu2]
   have:(Builtin.lenOf (.slice (some ⟨L.B,L.base+off,none⟩) len c)).run P w=.ok len w:=rfl
   rw [this] at hl
   have h0:n=len:=by injection hl with a _;exact a.symm
   subst h0
   simp only [Builtin.firstCells,Nat.mul_one] at hfull
   have e4:(ns.map fun b=>Value.int .u8 (b.toNat:Int))=((ns.map fun b=>(b.toNat:Int)).map (Value.int .u8)):=by simp
   rw [e4] at hfull
   rw [run_bytesToString w _ n c _ hfull,lI]
   simp
  | sliceMore b off len c sz L hb' _ _=>
   rw [run_convert_bytes_string w src dst e _ _ _ hu1 hue hu2]
   have:(Builtin.lenOf (.slice (some ⟨L.B,L.base+off,none⟩) len c)).run P w=.ok len w:=rfl
   rw [this] at hl
   have h0:n=len:=by injection hl with a _;exact a.symm
   subst h0
   simp only [Builtin.firstCells,Nat.mul_one] at hfull
   have e4:(ns.map fun b=>Value.int .u8 (b.toNat:Int))=((ns.map fun b=>(b.toNat:Int)).map (Value.int .u8)):=by simp
   rw [e4] at hfull
   rw [run_bytesToString w _ n c _ hfull,lI]
   simp
  | sliceG a b L M c _ _=>
   rw [run_convert_bytes_string w src dst e _ _ _ hu1 hue hu2]
   have:(Builtin.lenOf (.slice (some ⟨L.B,L.base,none⟩) M.base c)).run P w=.ok M.base w:=rfl
   rw [this] at hl
   have h0:n=M.base:=by injection hl with a _;exact a.symm
   rw [←h0]
   simp only [Builtin.firstCells,Nat.mul_one] at hfull
   have e4:(ns.map fun b=>Value.int .u8 (b.toNat:Int))=((ns.map fun b=>(b.toNat:Int)).map (Value.int .u8)):=by simp
   rw [e4] at hfull
   rw [run_bytesToString w _ n c _ hfull,lI]
   simp
  | str l c _=>exact absurd rfl (hns l c)
  | junk=>exact absurd rfl hj
  | tab b ds vs=>exact absurd ⟨b,ds,vs,rfl⟩ ht
  | ustr l _ _=>exact absurd ⟨l,rfl⟩ hu
  | _=>simp [Builtin.lenOf] at hl
 refine aa (fun hb=>?_) (fun _=>?_)
 ·unfold strV
  rw [af,af]
  refine aa (fun _=>?_) (fun _=>trivial)
  obtain⟨h1,h2⟩:=run cs0 hr0 hlen0 hb
  exact au hs (.str n _ h1) h2
 ·unfold tabConv
  cases hk:jA cs0 with
  | none=>exact trivial
  | some b=>
   obtain⟨L,hL⟩:=eS hr0 hk
   dsimp only
   refine aa (fun _=>?_) (fun _=>trivial)
   cases ht:nN b n cs0 (b9 (h.get b)) with
   | none=>exact trivial
   | some rs=>
    cases rs with
    | nil=>exact trivial
    | cons v r=>
     by_cases hne:b9 (h.get b)=[]
     ·rw [hne] at ht;injection ht with ht;cases ht
     ·obtain⟨_,hm⟩:=dU hs hL hne
      obtain⟨hb,he⟩:=mG ht _ hm
      have hp:=eC hL hr0
      obtain⟨h1,h2⟩:=run _ hp (by have e1:=hp.length;have e2:=hr0.length;omega) hb
      exact au hs (.tab b _ _ L _ hL (by rw [he];rfl) (by rw [he];exact .str n _ h1)) h2
theorem pJ(w:World)(need old:Nat)(e:TypeId):need≤grownCap w need old e:=by
 unfold grownCap Question.cut
 exact Nat.le_add_right _ _
theorem DT{w1:World}(hs:Sim w0 ρ h w1){o:AObj}{O:Obj}{k:Key→Heap→Res}{s:Sem Value}{L:Loc}(hL:L.B=w1.heap.size)
  (ho:∀ b,ρ b=none→ObjRel w0.F (ρ.add b L) L (some O) o)
  (hk:∀ b h',ρ b=none→Sub ρ (ρ.add b L)→Kept ρ h (ρ.add b L) h'→Sim w0 (ρ.add b L) h' (w1.alloc O)→ValOk P w0 ρ h w s (k b h')):ValOk P w0 ρ h w s (h.alloc o k):=by
 obtain⟨t,n⟩:=h
 show ValOk P w0 ρ _ w s (Heap.allocT t n o k)
 unfold Heap.allocT
 cases e:t.get n with
 | some x=>exact trivial
 | none=>
  have hb:(Heap.mk t n).get n=none:=e
  have hn:=hs.none_of_get hb
  have h1:Sim w0 (ρ.add n L) ((Heap.mk t n).put n o) (w1.alloc O):=hs.alloc hb hL (ho n hn)
  have h2:Sim w0 (ρ.add n L) (Heap.mk (t.set o n) (bV n)) (w1.alloc O):=⟨h1.os,h1.out,h1.size,h1.old,h1.sub,h1.obj,h1.inj⟩
  have h3:Kept ρ (Heap.mk t n) (ρ.add n L) (Heap.mk (t.set o n) (bV n)):=fun k x g e=>eZ (h:=.mk t n) (o:=o) (L:=L) hb k x g e
  exact hk n _ hn (Rho.sub_add hn) h3 h2
theorem AS(hs:Sim w0 ρ h w){e:Nat}{cs:List AV}{C:Array Value}{q:Nat × Nat}{s:Sem Value}{len cap sz:Nat}(hC:RelL ρ cs (C.toList.take cs.length))(hlen:cs.length≤C.size)(hq:∀ j,q.1≤j→j < q.2→C.size≤j)
  (hcap:len≤cap) (hsz:cap * sz=C.size) (hrun:s.run P w=.ok (.slice (some ⟨w.heap.size,0,none⟩) len cap) (w.drew.alloc (.cells C e q))):
  ValOk P w0 ρ h w s (h.alloc (.cells e cs true 0) (fun b h=>.val (.slice b 0 len (.more sz)) h)):=by
 refine DT hs.drew (L:=⟨w.heap.size,0,C.size⟩) (O:=.cells C e q) rfl (fun b hn=>?_) (fun b h' _ hsub hk hs'=>⟨_,_,_,hsub,hk,hs',?_,hrun⟩)
 ·refine⟨hs.new,C,q,rfl,rfl,fun j h1 h2=>.inr (hq j h1 h2),⟨by simpa using hlen,?_⟩,fun e=>(by cases e),fun _ e=>(by cases e)⟩
  simpa using hC.mono (Rho.sub_add hn)
 ·exact Rel.sliceMore b 0 len cap sz ⟨w.heap.size,0,C.size⟩ (Rho.add_same _ _ _) hcap (by simpa using hsz)
theorem yu(hs:Sim w0 ρ h w){src dst l c:Nat}(hc:c < 256 ^ l):ValOk P w0 ρ h w (convert src dst (.string (strOf l c))) (nK P src dst l c h):=by
 unfold nK
 cases hu:P.underlying dst with
 | none=>exact trivial
 | some d=>
  cases d with
  | string=>
   dsimp only
   refine aa (fun hk=>?_) (fun _=>trivial)
   unfold known at hk
   cases hus:P.underlying src with
   | none=>simp [hus] at hk
   | some ds=>
    refine au hs (.str l c hc) ?_
    simp only [convert,Sem.run_bind,a8 hus,a8 hu,Result.andThen_ok]
    cases ds<;>rfl
  | slice e=>
   dsimp only
   refine aa (fun hk=>?_) (fun _=>trivial)
   rw [Bool.and_eq_true] at hk
   have hue:=pI hk.1
   have hus:=lH hk.2
   have hrun:=run_bytes_of_string (P:=P) w src dst e (strOf l c) hus hu hue
   rw [aI] at hrun
   have hge:=pJ w l 0 e
   have hsz:(bytesRow (strOf l c) (grownCap w l 0 e)).size=grownCap w l 0 e:=by
    have:(strOf l c).data.size=l:=aI l c
    simp [bytesRow,aI,this];omega
   refine AS hs ?_ ?_ ?_ hge (by rw [hsz];omega) hrun
   ·rw [bq]
    have:(bytesRow (strOf l c) (grownCap w l 0 e)).toList.take l=(ac l c).map fun b=>Value.int .u8 b.toNat:=by
     simp only [bytesRow,Array.toList_append,Array.toList_map]
     rw [List.take_append_of_le_length (by simp [strOf,aD])]
     rw [List.take_of_length_le (by simp [strOf,aD])]
     rfl
    rw [this];exact il l c
   ·rw [bq,hsz];exact hge
   ·intro j h1 h2;exact h1
  | _=>exact trivial
theorem vz{B off:Nat}{C:Array Value}{e:TypeId}{q:Nat × Nat}(hO:w.heap[B]?=some (.cells C e q)):(Conv.seenAt ⟨B,off,none⟩).run P w=.ok ⟨B,off,none⟩ w:=by
 simp [Conv.seenAt,viewAt,World.shape?,hO]
theorem yv(_hP:TypesOk P)(hs:Sim w0 ρ h w){src dst off:Nat}{b:Key}{L:Loc}(hb:ρ b=some L):ValOk P w0 ρ h w (convert src dst (.pointer (some ⟨L.B,L.base+off,none⟩))) (nL P src dst b off h):=by
 unfold nL
 obtain⟨o,ho,hlt,hr⟩:=hs.obj b L hb
 rw [ho]
 split
 ·rename_i e cs heq
  injection heq with heq
  subst heq
  obtain⟨_,C,q,hO,htot,_,hC,h1,_⟩:=hr
  obtain⟨hbase,hlen⟩:=h1 rfl
  split
  ·rename_i t hu1 hu2
   refine aa (fun hc=>?_) (fun _=>trivial)
   rw [Bool.and_eq_true] at hc
   obtain⟨i,hi⟩:=cy (P:=P) (e:=t) (by simpa [gU] using hc.2)
   have hoff:=cb hc.1
   rw [aG] at hoff
   rw [bj hi] at hc
   have hsz:i.size≠0:=by intro e;rw [e] at hc;simp at hc
   refine au hs (.ptr b off L hb) ?_
   have hn:¬ (L.base+off ≥ C.size):=by rw [hbase,htot,hlen];omega
   simp [convert,a8 hu1,a8 hu2,Conv.unsafePointer,vz hO,ay hi,hsz,cellsIn,World.shape?,hO]
   omega
  ·rename_i u hu1 hu2
   refine aa (fun hc=>?_) (fun _=>trivial)
   rw [Bool.and_eq_true] at hc
   obtain⟨i,hi⟩:=cy hc.1
   have hc:=hc.2
   refine au hs (.ptr b off L hb) ?_
   rw [aG] at hc
   have hC':C.size=cs.length:=by rw [htot,hlen]
   simp [convert,a8 hu1,a8 hu2,Conv.unsafePointer,vz hO,ay hi,variablesAt,run_program,World.shape?,hO,hC',hbase,hc]
  ·exact trivial
 ·exact trivial
theorem yw(hs:Sim w0 ρ h w){src dst:Nat}{k:IntKind}{m:Bool}{c j:Nat}{n:Int}(hr:j6 k m c j n):ValOk P w0 ρ h w (convert src dst (.int k n)) (nO P src dst k m c j h):=by
 unfold nO
 split
 ·rename_i hu1 hu2
  refine aa (fun hc=>?_) (fun _=>trivial)
  simp only [Bool.and_eq_true] at hc
  obtain⟨hm,hk⟩:=hc
  have:=ap hk;subst this
  have hm:m=false:=by simpa using hm
  subst hm
  obtain⟨h1,_⟩:(IntKind.u64.wrap n).tmod (Int.ofNat c)=Int.ofNat j∧(IntKind.i64=.u64→IntKind.u64.wrap n=n):=hr
  have hww:IntKind.u64.wrap (IntKind.u64.wrap n)=IntKind.u64.wrap n:=by simp [IntKind.wrap,IntKind.signed]
  refine au hs (.red .u64 false c j (IntKind.u64.wrap n) ⟨by rw [hww];exact h1,fun _=>hww⟩) ?_
  simp [convert,a8 hu1,a8 hu2,Conv.intToInt]
 ·exact trivial
theorem wI(hs:Sim w0 ρ h w){src dst:Nat}{k:IntKind}{m:Bool}{c:Nat}{b:Key}{L:Loc}{n:Int}(hb:ρ b=some L)(hr:j6 k m c L.base n):ValOk P w0 ρ h w (convert src dst (.int k n)) (kT P src dst k m c b h):=by
 unfold kT
 split
 ·rename_i hu1 hu2
  refine aa (fun hc=>?_) (fun _=>trivial)
  simp only [Bool.and_eq_true] at hc
  obtain⟨hm,hk⟩:=hc
  have:=ap hk;subst this
  have hm:m=false:=by simpa using hm
  subst hm
  obtain⟨h1,_⟩:(IntKind.u64.wrap n).tmod (Int.ofNat c)=Int.ofNat L.base∧(IntKind.i64=.u64→IntKind.u64.wrap n=n):=hr
  have hww:IntKind.u64.wrap (IntKind.u64.wrap n)=IntKind.u64.wrap n:=by simp [IntKind.wrap,IntKind.signed]
  refine au hs (.reds .u64 false c b L (IntKind.u64.wrap n) hb ⟨by rw [hww];exact h1,fun _=>hww⟩) ?_
  simp [convert,a8 hu1,a8 hu2,Conv.intToInt]
 ·exact trivial
theorem gi:∀ n c,aM (az n c)=true
 | 0,_=>rfl
 | n+1,c=>by
  have hb:Nat.blt (c % 256) 256=true:=by rw [Nat.blt_eq];exact Nat.mod_lt _ (by decide)
  show cond (Nat.blt (c % 256) 256) (aM (az n (c / 256))) false=true
  rw [hb];exact gi n _
theorem rp:∀ n c,c < 256 ^ n→aB (az n c)=c
 | 0,c,h=>by
  have:c=0:=by simpa using h
  subst this;rfl
 | n+1,c,h=>by
  show c % 256+256 * aB (az n (c / 256))=c
  rw [rp n _ (by rw [Nat.pow_succ] at h;omega)];omega
theorem rq{s:Sem Value}{v:AV}{h1:Heap}{b:Key}{o o':AObj}{L:Loc}(hb:ρ b=some L)(h1b:h1=h.put b o')(hg:h.get b=some o)(ho:∀ (ρ:Rho) (L:Loc) (O:Option Obj),ObjRel w0.F ρ L O o'→ObjRel w0.F ρ L O o)(hl:o.live=true→o'.live=true)(hv:dv P w0 ρ h1 w s v h1):dv P w0 ρ h w s v h:=by
 subst h1b
 obtain⟨ρ',V,w',hsub,hk,hs',hr,e⟩:=hv
 have hs2:Sim w0 ρ' ((h.put b o').put b o) w':=hs'.swap (Heap.get_put_same h b o') (fun L O=>ho ρ' L O) hl
 have hx:∀ k,((h.put b o').put b o).get k=h.get k:=fun k=>by
  by_cases e:b=k
  ·subst e;rw [Heap.get_put_same];exact hg.symm
  ·rw [Heap.get_put_other _ _ _ _ e,Heap.get_put_other _ _ _ _ e]
 refine⟨ρ',V,w',hsub,fun k x g e=>?_,⟨hs2.os,hs2.out,hs2.size,hs2.old,hs2.sub,fun b2 L2 e2=>by rw [←hx b2];exact hs2.obj b2 L2 e2,fun b1 b2 L1 L2 o1 o2 e1 e2 g1 g2=>hs2.inj b1 b2 L1 L2 o1 o2 e1 e2 (by rw [hx];exact g1) (by rw [hx];exact g2)⟩,hr,e⟩
 by_cases hbk:b=k
 ·subst hbk;rw [hb] at e;cases e
 ·have:=hk k x (by rw [Heap.get_put_other _ _ _ _ hbk];exact g) e
  exact⟨this.1,g⟩
theorem yx{s:Sem Value}{v:AV}{b:Key}{o o':AObj}{L:Loc}(hb:ρ b=some L)(hg:h.get b=some o)(ho:∀ (ρ':Rho),Sub ρ ρ'→∀ (L:Loc) (O:Option Obj),ObjRel w0.F ρ' L O o'→ObjRel w0.F ρ' L O o)(hl:o.live=true→o'.live=true)(hv:dv P w0 ρ (h.put b o') w s v (h.put b o')):
  ∃ ρ' V w',Sub ρ ρ'∧Kept ρ h ρ' h∧Sim w0 ρ' h w'∧Rel ρ' v V∧s.run P w=.ok V w':=by
 obtain⟨ρ',V,w',hsub,hk,hs',hr,e⟩:=hv
 have hs2:Sim w0 ρ' ((h.put b o').put b o) w':=hs'.swap (Heap.get_put_same h b o') (fun L O=>ho ρ' hsub L O) hl
 have hx:∀ k,((h.put b o').put b o).get k=h.get k:=fun k=>by
  by_cases e:b=k
  ·subst e;rw [Heap.get_put_same];exact hg.symm
  ·rw [Heap.get_put_other _ _ _ _ e,Heap.get_put_other _ _ _ _ e]
 refine⟨ρ',V,w',hsub,fun k x g e=>?_,⟨hs2.os,hs2.out,hs2.size,hs2.old,hs2.sub,fun b2 L2 e2=>by rw [←hx b2];exact hs2.obj b2 L2 e2,fun b1 b2 L1 L2 o1 o2 e1 e2 g1 g2=>hs2.inj b1 b2 L1 L2 o1 o2 e1 e2 (by rw [hx];exact g1) (by rw [hx];exact g2)⟩,hr,e⟩
 by_cases hbk:b=k
 ·subst hbk;rw [hb] at e;cases e
 ·have:=hk k x (by rw [Heap.get_put_other _ _ _ _ hbk];exact g) e
  exact⟨this.1,g⟩
theorem Sim.swapAt(hs:Sim w0 ρ h w){b:Key}{L0:Loc}{o o':AObj}(hb0:ρ b=some L0)(hg:h.get b=some o)(ho:ObjRel w0.F ρ L0 w.heap[L0.B]? o→ObjRel w0.F ρ L0 w.heap[L0.B]? o')(hl:o'.live=true→o.live=true):Sim w0 ρ (h.put b o') w:=by
 refine⟨hs.os,hs.out,hs.size,hs.old,hs.sub,fun b' L e=>?_,fun b1 b2 L1 L2 o1 o2 e1 e2 g1 g2 l1 l2 hB=>?_⟩
 ·obtain⟨x,gx,hlt,hr⟩:=hs.obj b' L e
  by_cases hb:b=b'
  ·subst hb
   rw [hg] at gx;injection gx with gx;subst gx
   rw [hb0] at e;injection e with e;subst e
   exact⟨o',Heap.get_put_same h b o',hlt,ho hr⟩
  ·exact⟨x,by rw [Heap.get_put_other h b b' o' hb];exact gx,hlt,hr⟩
 ·have old:∀ b3 o3,(h.put b o').get b3=some o3→o3.live=true→∃ o4,h.get b3=some o4∧o4.live=true:=by
   intro b3 o3 g l
   by_cases hb:b=b3
   ·subst hb
    rw [Heap.get_put_same] at g;injection g with g;subst g
    exact⟨o,hg,hl l⟩
   ·rw [Heap.get_put_other h b b3 o' hb] at g;exact⟨o3,g,l⟩
  obtain⟨o3,g3,l3⟩:=old b1 o1 g1 l1
  obtain⟨o4,g4,l4⟩:=old b2 o2 g2 l2
  exact hs.inj b1 b2 L1 L2 o3 o4 e1 e2 g3 g4 l3 l4 hB
def aJ(zs:List UInt8):List AV:=zs.map fun b=>.int .u8 (Int.ofNat b.toNat)
theorem cc(zs:List UInt8):(aJ zs).length=zs.length:=by simp [aJ]
theorem rt(ρ:Rho):∀ zs:List UInt8,RelL ρ (aJ zs) (zs.map fun b=>.int .u8 (b.toNat:Int))
 | []=>.nil
 | _::r=>.cons _ _ _ _ (.int _ _) (rt ρ r)
theorem kA:∀ zs:List UInt8,aM (aJ zs)=true
 | []=>rfl
 | b::r=>by
  show cond (Nat.blt b.toNat 256) (aM (aJ r)) false=true
  have:Nat.blt b.toNat 256=true:=by rw [Nat.blt_eq];exact b.toNat_lt
  rw [this];exact kA r
theorem yy:∀ zs:List UInt8,dq (aJ zs)=true
 | []=>rfl
 | _::r=>yy r
theorem Sim.known(hs:Sim w0 ρ h w){b:Key}{L:Loc}{e n:Nat}(hb:ρ b=some L)(hg:h.get b=some (.bytes e n)):∃ zs:List UInt8,zs.length=n∧Sim w0 ρ (h.put b (.cells e (aJ zs) false 0)) w:=by
 obtain⟨o,ho,hlt,hr⟩:=hs.obj b L hb
 rw [hg] at ho;cases ho
 obtain⟨hN,hbase,htot,zs,hz,hO⟩:=hr
 refine⟨zs,hz,hs.swapAt hb hg (fun _=>?_) (fun _=>rfl)⟩
 refine⟨hN,_,(0,0),hO,by simp [hz,htot],fun j _ h2=>absurd h2 (Nat.not_lt_zero _),⟨by simp [hbase,cc],?_⟩,fun _=>⟨hbase,by rw [cc,hz,htot]⟩,fun _ _=>rfl⟩
 rw [hbase,cc,List.drop_zero,List.take_of_length_le (by simp)]
 exact rt ρ zs
theorem ru{F:Nat→Prop}{ρ:Rho}{L:Loc}{O:Option Obj}{e n:Nat}{cs:List AV}(hlen:cs.length=n)(hall:aM cs=true)(hr:ObjRel F ρ L O (.cells e cs false 0)):ObjRel F ρ L O (.bytes e n):=by
 obtain⟨hN,C,q,hO,hsz,_,⟨_,hrel⟩,hop,hq⟩:=hr
 obtain⟨hb,ht⟩:=hop rfl
 obtain rfl:=hq rfl rfl
 rw [hb,List.drop_zero,List.take_of_length_le (by rw [Array.length_toList,hsz,ht];exact Nat.le_refl _)] at hrel
 obtain⟨ns,e1,_,e3⟩:=fJ hrel hall
 refine⟨hN,hb,by rw [ht,hlen],ns,by rw [e3,hlen],?_⟩
 rw [hO,←e1]
theorem DU(l:ByteArray):∃ c,c < 256 ^ l.size∧l=strOf l.size c:=
 ⟨aZ l.data.toList,by have:=dD l.data.toList;simpa using this,by
  have:=im l.data.toList
  simpa using this⟩
theorem wJ(hs:Sim w0 ρ h w){src dst e e1 n off len:Nat}{b:Key}{cap:ACap}{V:Value}(hu1:P.underlying src=some (.slice e))(hu2:P.underlying dst=some .string)(he:dK P e=true)(hv:Rel ρ (.slice b off len cap) V)(hg:h.get b=some (.bytes e1 n))(hle:off+len≤n)(hlong:Nat.ble len 1000000=true):
  ValOk P w0 ρ h w (convert src dst V) (.val (.ustr len) h):=by
 have hb:∃ L,ρ b=some L:=by cases hv with | sliceIs _ _ _ _ L hb=>exact⟨L,hb⟩ | sliceMore _ _ _ _ _ L hb _ _=>exact⟨L,hb⟩
 obtain⟨L,hb⟩:=hb
 obtain⟨zs,hz,hs1⟩:=hs.known hb hg
 have h1:=gh (P:=P) hs1 hu1 hu2 he hv (fun l c e=>by cases e) (fun _ _ _ e=>by cases e) (fun _ e=>by cases e)
 have hat:aW (h.put b (.cells e1 (aJ zs) false 0)) b off (len * 1)=some (aJ ((zs.drop off).take len)):=by
  unfold aW
  rw [Heap.get_put_same,Nat.mul_one]
  show cond (Nat.beq (VM.len (take len (drop off (aJ zs)))) len) (some (take len (drop off (aJ zs)))) none=_
  have e1:take len (drop off (aJ zs))=aJ ((zs.drop off).take len):=by rw [bU,bB];simp [aJ,List.map_drop,List.map_take]
  have e2:(aJ ((zs.drop off).take len)).length=len:=by rw [cc,List.length_take,List.length_drop];omega
  rw [e1,aG,e2,Nat.beq_refl];rfl
 have hcells:sliceCells (h.put b (.cells e1 (aJ zs) false 0)) 1 (fun l cs=>cond (aM cs) (strV l (aB cs) (h.put b (.cells e1 (aJ zs) false 0))) (tabConv l cs (h.put b (.cells e1 (aJ zs) false 0)))) (.slice b off len cap)=.val (.str len (aB (aJ ((zs.drop off).take len)))) (h.put b (.cells e1 (aJ zs) false 0)):=by
  dsimp only [sliceCells]
  rw [hat]
  dsimp only
  rw [kA]
  unfold strV
  rw [af,af,cond_true,hlong,cond_true]
 rw [hcells] at h1
 obtain⟨ρ',V',w',s1,s2,s3,s4,s5⟩:=rq (h:=h) (o:=.bytes e1 n) (o':=.cells e1 (aJ zs) false 0) hb rfl hg (fun _ _ _ hr=>ru (by rw [cc];exact hz) (kA zs) hr) (fun _=>rfl) h1
 refine⟨ρ',V',w',s1,s2,s3,?_,s5⟩
 cases s4 with | str _ _ _=>exact .ustr _ _ (aI _ _)
theorem ry(hs:Sim w0 ρ h w){src dst e:Nat}{b:Key}{off len:Nat}{cap:ACap}{V:Value}(hu1:P.underlying src=some (.slice e))(hu2:P.underlying dst=some .string)(he:dK P e=true)(hv:Rel ρ (.slice b off len cap) V){e1 k:Nat}{t:RT Nat}(hg:h.get b=some (.pack e1 k t)){L:Loc}(hb:ρ b=some L):
  ValOk P w0 ρ h w (convert src dst V) (dM k t off len h):=by
 unfold dM
 refine aa (fun hc=>?_) (fun _=>trivial)
 simp only [Bool.and_eq_true] at hc
 obtain⟨⟨ho,hl⟩,hk,hlong⟩:=hc
 have ho:off % 256=0:=Nat.eq_of_beq_eq_true ho
 have hl:len % 256=0:=Nat.eq_of_beq_eq_true hl
 have hk:=Nat.le_of_ble_eq_true hk
 rw [af]
 have h1:=gh (P:=P) (hs.unpack hg) hu1 hu2 he hv (fun l c e=>by cases e) (fun _ _ _ e=>by cases e) (fun _ e=>by cases e)
 obtain⟨p1,p2⟩:=pU t k (len / 256) (off / 256) hk
 have eo:256 * (off / 256)=off:=by omega
 have el:256 * (len / 256)=len:=by omega
 rw [eo,el] at p2
 rw [el] at p1
 have hcells:sliceCells (h.put b (.cells e1 (ag t k) false 0)) 1 (fun l cs=>cond (aM cs) (strV l (aB cs) (h.put b (.cells e1 (ag t k) false 0))) (tabConv l cs (h.put b (.cells e1 (ag t k) false 0)))) (.slice b off len cap)=.val (.str len (bR t (len / 256) (off / 256))) (h.put b (.cells e1 (ag t k) false 0)):=by
  have hat:aW (h.put b (.cells e1 (ag t k) false 0)) b off (len * 1)=some (az len (bR t (len / 256) (off / 256))):=by
   unfold aW
   rw [Heap.get_put_same,Nat.mul_one]
   show cond (Nat.beq (VM.len (take len (drop off (ag t k)))) len) (some (take len (drop off (ag t k)))) none=_
   rw [bU,bB,p2,aG,bq,Nat.beq_refl]
   rfl
  dsimp only [sliceCells]
  rw [hat]
  dsimp only
  rw [gi,rp _ _ p1]
  unfold strV
  rw [af,af,cond_true,hlong,cond_true]
 rw [hcells] at h1
 exact rq (h:=h) (o:=.pack e1 k t) (o':=.cells e1 (ag t k) false 0) hb rfl hg (fun _ _ _ hr=>hr) (fun _=>rfl) h1
theorem Sim.packed(hs:Sim w0 ρ h w){b:Key}{L:Loc}{e k:Nat}{t:RT Nat}{ov:List (Nat × AV)}(hb:ρ b=some L)(hg:h.get b=some (.packo e k t ov)):∃ t',Agree k ρ t' t ov∧Sim w0 ρ (h.put b (.pack e k t')) w:=by
 obtain⟨o,ho,hlt,hr⟩:=hs.obj b L hb
 rw [hg] at ho;cases ho
 obtain⟨t',ha,hr⟩:=hr
 exact⟨t',ha,hs.swapAt hb hg (fun _=>hr) (fun _=>rfl)⟩
theorem yz{F:Nat→Prop}{ρ:Rho}{L:Loc}{O:Option Obj}{e k:Nat}{t' t:RT Nat}{ov:List (Nat × AV)}(ha:Agree k ρ t' t ov)(hr:ObjRel F ρ L O (.pack e k t')):ObjRel F ρ L O (.packo e k t ov):=⟨t',ha,hr⟩
theorem vA{lo hi i:Nat}:∀ {ov:List (Nat × AV)},xu lo hi ov=true→lo≤i→i < hi→jD i ov=none
 | [],_,_,_=>rfl
 | p::r,h,h1,h2=>by
  have h:cond (and (Nat.ble lo p.1) (Nat.blt p.1 hi)) false (xu lo hi r)=true:=h
  show cond (Nat.beq p.1 i) (some p.2) (jD i r)=none
  cases hc:and (Nat.ble lo p.1) (Nat.blt p.1 hi) with
  | true=>rw [hc] at h;cases h
  | false=>
   rw [hc] at h
   cases he:Nat.beq p.1 i with
   | true=>
    have:=Nat.eq_of_beq_eq_true he
    rw [this,Nat.ble_eq_true_of_le h1,show Nat.blt i hi=true from by rw [Nat.blt_eq];exact h2] at hc
    cases hc
   | false=>exact vA h h1 h2
theorem j8{k:Nat}{t' t:RT Nat}{ov:List (Nat × AV)}(ha:Agree k ρ t' t ov):∀ (m i:Nat),i+m≤k→(∀ j,i≤j→j < i+m→jD j ov=none)→bR t' m i=bR t m i
 | 0,_,_,_=>rfl
 | m+1,i,hle,hn=>by
  show bW t' i+Nat.shiftLeft (bR t' m (i+1)) 2048=bW t i+Nat.shiftLeft (bR t m (i+1)) 2048
  rw [(ha i (by omega)).1 (hn i (Nat.le_refl _) (by omega)),j8 ha m (i+1) (by omega) (fun j h1 h2=>hn j (by omega) (by omega))]
theorem yA(hs:Sim w0 ρ h w){src dst e:Nat}{b:Key}{off len:Nat}{cap:ACap}{V:Value}(hu1:P.underlying src=some (.slice e))(hu2:P.underlying dst=some .string)(he:dK P e=true)(hv:Rel ρ (.slice b off len cap) V){e1 k:Nat}{t:RT Nat}{ov:List (Nat × AV)}(hg:h.get b=some (.packo e1 k t ov)){L:Loc}(hb:ρ b=some L):
  ValOk P w0 ρ h w (convert src dst V) (nM k t ov off len h):=by
 unfold nM
 refine aa (fun hc=>?_) (fun _=>trivial)
 obtain⟨t',ha,hs1⟩:=hs.packed hb hg
 have h1:=ry (P:=P) hs1 hu1 hu2 he hv (Heap.get_put_same h b _) hb
 have hcs:=hc
 simp only [Bool.and_eq_true] at hc
 have hk:=Nat.le_of_ble_eq_true hc.2.1
 have hpk:∀ (t:RT Nat) (h:Heap),dM k t off len h=.val (.str len (bR t (len / 256) (off / 256))) h:=fun t h=>by
  unfold dM;rw [hcs,cond_true,af]
 rw [hpk] at h1
 obtain⟨ρ',V',w',s1,s2,s3,s4,s5⟩:=yx hb hg (fun ρ' hsub L O hr=>yz (ha.mono hsub) hr) (fun _=>rfl) h1
 have plain:(∀ j,off / 256≤j→j < off / 256+len / 256→jD j ov=none)→ValOk P w0 ρ h w (convert src dst V) (dM k t off len h):=fun hn=>by
  rw [hpk]
  rw [j8 ha _ _ hk hn] at s4
  exact⟨ρ',V',w',s1,s2,s3,s4,s5⟩
 refine aa (fun hl=>?_) (fun _=>aa (fun hf=>plain fun j h1 h2=>vA hf h1 h2) (fun _=>trivial))
 have hl:=Nat.eq_of_beq_eq_true hl
 subst hl
 cases ho:jD (off / 256) ov with
 | none=>
  refine plain fun j h1 h2=>?_
  have:j=off / 256:=by omega
  subst this;exact ho
 | some v=>
  have hr:=((ha (off / 256) (by omega)).2 v ho).mono s1
  refine⟨ρ',V',w',s1,s2,s3,?_,s5⟩
  have hcode:bR t' (256 / 256) (off / 256)=bW t' (off / 256):=by
   show bW t' (off / 256)+Nat.shiftLeft 0 2048=_
   simp
  rw [hcode] at s4
  cases s4 with | str _ _ _=>exact hr
theorem yB(hs:Sim w0 ρ h w){src dst e:Nat}{v:AV}{V:Value}(hu1:P.underlying src=some (.slice e))(hu2:P.underlying dst=some .string)(he:dK P e=true)(hv:Rel ρ v V){r:Res}(hr:ValOk P w0 ρ h w (convert src dst V) r):
  ValOk P w0 ρ h w (convert src dst V) (packConv v h r):=by
 unfold packConv
 split
 ·rename_i b off len cap
  split
  ·rename_i e1 k t hg
   have hb:∃ L,ρ b=some L:=by cases hv with | sliceIs _ _ _ _ L hb=>exact⟨L,hb⟩ | sliceMore _ _ _ _ _ L hb _ _=>exact⟨L,hb⟩
   obtain⟨L,hb⟩:=hb
   exact ry hs hu1 hu2 he hv hg hb
  ·rename_i e1 k t ov hg
   have hb:∃ L,ρ b=some L:=by cases hv with | sliceIs _ _ _ _ L hb=>exact⟨L,hb⟩ | sliceMore _ _ _ _ _ L hb _ _=>exact⟨L,hb⟩
   obtain⟨L,hb⟩:=hb
   exact yA hs hu1 hu2 he hv hg hb
  ·rename_i e1 n hg
   refine aa (fun hc=>?_) (fun _=>trivial)
   simp only [Bool.and_eq_true] at hc
   exact wJ hs hu1 hu2 he hv hg (Nat.le_of_ble_eq_true hc.1) hc.2
  ·exact hr
 ·exact hr
theorem pK(hP:TypesOk P)(hs:Sim w0 ρ h w){src dst:Nat}{v:AV}{V:Value}(hv:Rel ρ v V):ValOk P w0 ρ h w (convert src dst V) (fw P src dst v h):=by
 unfold fw
 split
 ·cases hv;exact gA hs
 ·cases hv;exact gA hs
 ·cases hv with | str l c hc=>exact yu hs hc
 ·cases hv with | ptr b off L hb=>exact yv hP hs hb
 ·cases hv with | red k m c j n hr=>exact yw hs hr
 ·cases hv with | reds k m c b L n hb hr=>exact wI hs hb hr
 ·exact trivial
 ·exact trivial
 ·rename_i h1 h2 h3 h4 h5 h6 h7 h8
  unfold xx
  split
  ·rename_i e hu1 hu2
   refine aa (fun hc=>?_) (fun _=>trivial)
   exact yB hs hu1 hu2 hc hv (gh hs hu1 hu2 hc hv (fun l c e=>h3 l c e) (fun b ds vs e=>h7 b ds vs e) (fun l e=>h8 l e))
  ·exact trivial
end
end Go.VM
namespace Go.VM
theorem vB(need:Nat):∀ (r c:Nat),c≤2 * need+192→Builtin.growBy need r c≤2 * need+192
 | 0,c,h=>h
 | r+1,c,h=>by
  unfold Builtin.growBy
  split
  ·exact h
  ·exact vB need r _ (by omega)
theorem rz(need c:Nat)(h:c < need):Builtin.nextslicecap need c≤2 * need+192:=by
 unfold Builtin.nextslicecap
 split
 ·omega
 ·split
  ·omega
  ·exact vB need 4 c (by omega)
section
variable {P:Program} {w0:Base} {ρ:Rho} {h:Heap} {w:World}
theorem dW{ts:Array Nat}{t t1 ty e len c n:Nat}{i:TypeInfo}{base:Option Addr}{X:Value}{New:List Value}{w':World}(h0:ts[0]?=some t)(h1:ts[1]?=some t1)(hu:P.underlying t=some (.slice e))(hi:P.info? e=some i)
  (ht1:kW P t1=true) (hl:(Builtin.lenOf X).run P w=.ok n w) (hf:(Builtin.firstCells i.size n X).run P w=.ok New.toArray w) (hle:len+n≤c)
  (hst:match base with | none=>w'=w | some a=>(storeCells (a.add (len * i.size)) New).run P w=.ok () w'):
  (Builtin.append_ ts ty #[.slice base len c,X]).run P w=.ok (.slice base (len+n) c) w':=by
 have hz:∃ d,P.underlying t1=some d∧(∀ k,d≠.int k):=by
  unfold kW at ht1
  cases hd:P.underlying t1 with
  | none=>simp [hd] at ht1
  | some d=>cases d<;>simp [hd] at ht1<;>exact⟨_,rfl,by simp⟩
 obtain⟨d1,hd1,hnk⟩:=hz
 have hm:(match d1 with | .int _=>true | _=>false)=false:=by cases d1<;>first | rfl | exact absurd rfl (hnk _)
 cases base with
 | none=>
  dsimp only at hst
  subst hst
  simp [Builtin.append_,h0,h1,a8 hu,ay hi,a8 hd1,hl,hle,hf]
 | some a=>
  dsimp only at hst
  simp [Builtin.append_,h0,h1,a8 hu,ay hi,a8 hd1,hl,hle,hf,hst]
theorem iU{ts:Array Nat}{t t1 ty e len c n:Nat}{i:TypeInfo}{Z:Value}{base:Option Addr}{X:Value}{Old New:List Value}(h0:ts[0]?=some t)(h1:ts[1]?=some t1)(hu:P.underlying t=some (.slice e))(hi:P.info? e=some i)
  (hZ:i.zero=some Z) (ht1:kW P t1=true) (hl:∀ w,(Builtin.lenOf X).run P w=.ok n w) (hf:(Builtin.firstCells i.size n X).run P w.drew=.ok New.toArray w.drew) (ho:(Builtin.firstCells i.size len (.slice base len c)).run P w.drew=.ok Old.toArray w.drew)
  (hgt:c < len+n) (hb1:(len+n) * i.bytes≤1000000000) (hb2:len+n≤1000000000):
  (Builtin.append_ ts ty #[.slice base len c,X]).run P w=.ok (.slice (some ⟨w.heap.size,0,none⟩) (len+n) (grownCap w (len+n) c e)) (w.drew.alloc (.cells (Old++New++(Builtin.zeroCells Z.cells (grownCap w (len+n) c e - (len+n))).toList).toArray e)):=by
 have hz:∃ d,P.underlying t1=some d∧(∀ k,d≠.int k):=by
  unfold kW at ht1
  cases hd:P.underlying t1 with
  | none=>simp [hd] at ht1
  | some d=>cases d<;>simp [hd] at ht1<;>exact⟨_,rfl,by simp⟩
 obtain⟨d1,hd1,hnk⟩:=hz
 have hm:(match d1 with | .int _=>true | _=>false)=false:=by cases d1<;>first | rfl | exact absurd rfl (hnk _)
 have hle:¬ len+n≤c:=by omega
 have hbytes:i.bytes≤1000000000:=by
  have:1 * i.bytes≤(len+n) * i.bytes:=Nat.mul_le_mul_right _ (by omega)
  omega
 have hcap:¬ Builtin.nextslicecap (len+n) c * i.bytes > 2 ^ 48:=by
  have h1:=Nat.mul_le_mul_right i.bytes (rz (len+n) c hgt)
  have h2:(2 * (len+n)+192) * i.bytes=2 * ((len+n) * i.bytes)+192 * i.bytes:=by rw [Nat.add_mul,Nat.mul_assoc]
  omega
 have hmax:¬ (((len+n:Nat):Int) > IntKind.i64.max):=by show ¬ ((len+n:Nat):Int) > 9223372036854775807;omega
 have hzr:∀ w,(zeroValue e).run P w=.ok Z w:=fun w=>by simp [zeroValue,typeInfo,hi,hZ]
 simp only [Builtin.append_,h0,h1]
 simp [a8 hu,ay hi,a8 hd1,hl,hle,eK hi,hcap,ho,hf,hzr]
 have hnot:¬ (9223372036854775807 < (len:Int)+(n:Int)∧i.bytes=0):=by omega
 have hfo:¬ ((Question.appendCap (len+n) c e).forced=true):=by simp [Question.forced]
 rw [if_neg hnot,if_neg hfo]
 simp [newRow,grownCap]
 congr 2
 apply Array.ext'
 simp
theorem Sim.kill(hs:Sim w0 ρ h w){b:Key}{L:Loc}{o:AObj}(_hb:ρ b=some L)(_hg:h.get b=some o)(_hlive:o.live=true):Sim w0 ρ (h.put b .dead) w:=by
 refine⟨hs.os,hs.out,hs.size,hs.old,hs.sub,?_,?_⟩
 ·intro k K e
  obtain⟨x,gx,hlt,hr⟩:=hs.obj k K e
  by_cases hk:b=k
  ·subst hk;exact⟨.dead,Heap.get_put_same h b .dead,hlt,trivial⟩
  ·exact⟨x,by rw [Heap.get_put_other h b k .dead hk];exact gx,hlt,hr⟩
 ·intro k1 k2 L1 L2 o1 o2 e1 e2 g1 g2 l1 l2 hB
  have key:∀ k ok,(h.put b .dead).get k=some ok→ok.live=true→h.get k=some ok:=by
   intro k ok g l
   by_cases hk:b=k
   ·subst hk;rw [Heap.get_put_same] at g;cases g;simp [AObj.live] at l
   ·rw [Heap.get_put_other h b k .dead hk] at g;exact g
  exact hs.inj k1 k2 L1 L2 o1 o2 e1 e2 (key _ _ g1 l1) (key _ _ g2 l2) l1 l2 hB
theorem Sim.move(hs:Sim w0 ρ h w){b b':Key}{L L':Loc}{o o':AObj}{O:Obj}{w':World}(hb:ρ b=some L)(hg:h.get b=some o)(hlive:o.live=true)(hb':(h.put b .dead).get b'=none)(hB':L'.B=L.B)
  (hN:¬ w0.F L.B) (hos:w'.os=w.os) (hout:w'.output=w.output) (hsz:w'.heap.size=w.heap.size) (hsame:∀ k,k≠L.B→w'.heap[k]?=w.heap[k]?) (hat:w'.heap[L.B]?=some O)
  (ho:ObjRel w0.F (ρ.add b' L') L' (some O) o'):Sim w0 (ρ.add b' L') ((h.put b .dead).put b' o') w':=by
 have hkill:=hs.kill hb hg hlive
 have hn:=hkill.none_of_get hb'
 have hsub:Sub ρ (ρ.add b' L'):=Rho.sub_add hn
 obtain⟨_,_,hltL,_⟩:=hs.obj b L hb
 have hne:b≠b':=by intro e;subst e;rw [Heap.get_put_same] at hb';cases hb'
 refine⟨hos.trans hs.os,hout.trans hs.out,by rw [hsz];exact hs.size,?_,hs.sub.trans hsub,?_,?_⟩
 ·intro k hk;rw [hsame k (fun e=>hN (e▸hk))];exact hs.old k hk
 ·intro k K e
  by_cases hk:b'=k
  ·subst hk
   rw [Rho.add_same] at e;cases e
   refine⟨o',Heap.get_put_same _ _ _,by rw [hB',hsz];exact hltL,?_⟩
   rw [hB',hat];exact ho
  ·have e':ρ k=some K:=by simpa [Rho.add,hk] using e
   rw [Heap.get_put_other _ _ _ _ hk]
   obtain⟨x,gx,hlt,hr⟩:=hkill.obj k K e'
   refine⟨x,gx,by rw [hsz];exact hlt,?_⟩
   cases hl:x.live with
   | false=>cases x<;>first | exact trivial | exact hr | simp [AObj.live] at hl
   | true=>
    have hbk:b≠k:=by intro e0;subst e0;rw [Heap.get_put_same] at gx;cases gx;simp [AObj.live] at hl
    have gx':=gx
    rw [Heap.get_put_other h b k .dead hbk] at gx'
    have hneB:K.B≠L.B:=fun hB=>hbk (hs.inj b k L K o x hb e' hg gx' hlive hl hB.symm)
    rw [hsame _ hneB];exact hr.mono hsub
 ·intro k1 k2 L1 L2 o1 o2 e1 e2 g1 g2 l1 l2 hB
  have key:∀ k K ok,(ρ.add b' L') k=some K→((h.put b .dead).put b' o').get k=some ok→ok.live=true→b'≠k→ρ k=some K∧h.get k=some ok∧b≠k:=by
   intro k K ok e g l hk
   have e':ρ k=some K:=by simpa [Rho.add,hk] using e
   rw [Heap.get_put_other _ _ _ _ hk] at g
   have hbk:b≠k:=by intro e0;subst e0;rw [Heap.get_put_same] at g;cases g;simp [AObj.live] at l
   rw [Heap.get_put_other h b k .dead hbk] at g
   exact⟨e',g,hbk⟩
  by_cases h1:b'=k1
  ·subst h1
   by_cases h2:b'=k2
   ·exact h2
   ·exfalso
    obtain⟨e2',g2',hb2⟩:=key k2 L2 o2 e2 g2 l2 h2
    rw [Rho.add_same] at e1;cases e1
    exact hb2 (hs.inj b k2 L L2 o o2 hb e2' hg g2' hlive l2 (by rw [←hB'];exact hB))
  ·obtain⟨e1',g1',hb1⟩:=key k1 L1 o1 e1 g1 l1 h1
   by_cases h2:b'=k2
   ·exfalso
    subst h2
    rw [Rho.add_same] at e2;cases e2
    exact hb1 (hs.inj b k1 L L1 o o1 hb e1' hg g1' hlive l1 (by rw [←hB'];exact hB.symm))
   ·obtain⟨e2',g2',_⟩:=key k2 L2 o2 e2 g2 l2 h2
    exact hs.inj k1 k2 L1 L2 o1 o2 e1' e2' g1' g2' l1 l2 hB
end
end Go.VM
namespace Go.VM
section
variable {P:Program} {w0:Base} {ρ:Rho} {h:Heap} {w:World}
theorem DV{w1:World}{h1:Heap}(hk1:Kept ρ h ρ h1)(hs:Sim w0 ρ h1 w1){o:AObj}{O:Obj}{k:Key→Heap→Res}{s:Sem Value}{L:Loc}(hL:L.B=w1.heap.size)
  (ho:∀ b,ρ b=none→ObjRel w0.F (ρ.add b L) L (some O) o)
  (hk:∀ b h',ρ b=none→Sub ρ (ρ.add b L)→Kept ρ h (ρ.add b L) h'→Sim w0 (ρ.add b L) h' (w1.alloc O)→ValOk P w0 ρ h w s (k b h')):ValOk P w0 ρ h w s (h1.alloc o k):=by
 obtain⟨t,n⟩:=h1
 show ValOk P w0 ρ _ w s (Heap.allocT t n o k)
 unfold Heap.allocT
 cases e:t.get n with
 | some x=>exact trivial
 | none=>
  have hb:(Heap.mk t n).get n=none:=e
  have hn:=hs.none_of_get hb
  have a1:Sim w0 (ρ.add n L) ((Heap.mk t n).put n o) (w1.alloc O):=hs.alloc hb hL (ho n hn)
  have a2:Sim w0 (ρ.add n L) (Heap.mk (t.set o n) (bV n)) (w1.alloc O):=⟨a1.os,a1.out,a1.size,a1.old,a1.sub,a1.obj,a1.inj⟩
  have a3:Kept ρ (Heap.mk t n) (ρ.add n L) (Heap.mk (t.set o n) (bV n)):=fun k x g e=>eZ (h:=.mk t n) (o:=o) (L:=L) hb k x g e
  exact hk n _ hn (Rho.sub_add hn) (hk1.trans a3) a2
theorem yD{h1:Heap}(hk1:Kept ρ h ρ h1)(hs:Sim w0 ρ h1 w){e:Nat}{cs:List AV}{C:Array Value}{q:Nat × Nat}{s:Sem Value}{len cap sz fz:Nat}(hC:RelL ρ cs (C.toList.take cs.length))(hlen:cs.length≤C.size)(hq:∀ j,q.1≤j→j < q.2→C.size≤j)
  (hcap:len≤cap) (hsz:cap * sz=C.size) (hrun:s.run P w=.ok (.slice (some ⟨w.heap.size,0,none⟩) len cap) (w.drew.alloc (.cells C e q))):
  ValOk P w0 ρ h w s (h1.alloc (.cells e cs true fz) (fun b h=>.val (.slice b 0 len (.more sz)) h)):=by
 refine DV hk1 hs.drew (L:=⟨w.heap.size,0,C.size⟩) (O:=.cells C e q) rfl (fun b hn=>?_) (fun b h' _ hsub hk hs'=>⟨_,_,_,hsub,hk,hs',?_,hrun⟩)
 ·refine⟨hs.new,C,q,rfl,rfl,fun j h1 h2=>.inr (hq j h1 h2),⟨by simpa using hlen,?_⟩,fun e=>(by cases e),fun _ e=>(by cases e)⟩
  simpa using hC.mono (Rho.sub_add hn)
 ·exact Rel.sliceMore b 0 len cap sz ⟨w.heap.size,0,C.size⟩ (Rho.add_same _ _ _) hcap (by simpa using hsz)
theorem rA(Z:Array Value)(n:Nat):(Builtin.zeroCells Z n).size=n * Z.size:=by simp [Builtin.zeroCells]
theorem mH{fz:Nat}{h1:Heap}(hk1:Kept ρ h ρ h1)(hs:Sim w0 ρ h1 w){e need c:Nat}{i:TypeInfo}{Z:Value}{cs:List AV}{Cs:List Value}{s:Sem Value}(hi:P.info? e=some i)(_hZ:i.zero=some Z)(hZs:Z.cells.size=i.size)
  (hr:RelL ρ cs Cs) (hlen:cs.length=need * i.size)
  (hrun:need * i.bytes≤1000000000→need≤1000000000→s.run P w=.ok (.slice (some ⟨w.heap.size,0,none⟩) need (grownCap w need c e)) (w.drew.alloc (.cells (Cs++(Builtin.zeroCells Z.cells (grownCap w need c e - need)).toList).toArray e))):
  ValOk P w0 ρ h w s (tW P h1 e i.size cs need fz):=by
 unfold tW
 refine aa (fun hc=>?_) (fun _=>trivial)
 rw [Bool.and_eq_true] at hc
 have b1:=Nat.le_of_ble_eq_true hc.1
 have b2:=Nat.le_of_ble_eq_true hc.2
 have hby:iJ P e=i.bytes:=by simp [iJ,hi]
 rw [hby] at b1
 have hrun:=hrun b1 b2
 have hge:=pJ w need c e
 have hcl:=hr.length
 have hsz:(Cs++(Builtin.zeroCells Z.cells (grownCap w need c e - need)).toList).toArray.size=grownCap w need c e * i.size:=by
  simp only [List.size_toArray,List.length_append,Array.length_toList,rA,hcl,hlen,hZs]
  rw [←Nat.add_mul];congr 1;omega
 have hfun:(fun b h=>ak need (fun n=>Res.val (.slice b 0 n (.more i.size)) h))=(fun (b:Key) (h:Heap)=>Res.val (.slice b 0 need (.more i.size)) h):=by funext b h;rw [af]
 rw [hfun]
 refine yD hk1 hs ?_ ?_ ?_ hge hsz.symm hrun
 ·show RelL ρ cs ((Cs++_).take cs.length)
  rw [List.take_append_of_le_length (by omega),List.take_of_length_le (by omega)]
  exact hr
 ·rw [hsz,hlen];exact Nat.mul_le_mul_right _ hge
 ·intro j h1 h2;exact absurd h2 (by simp)
end
end Go.VM
namespace Go.VM
section
variable {P:Program} {w0:Base} {ρ:Rho} {h:Heap} {w:World}
theorem uS{b:Key}{cs:List AV}(hc:nI (h.get b)=some cs):∃ e opn fz,h.get b=some (.cells e cs opn fz):=by
 unfold nI at hc
 split at hc
 ·rename_i e c o f heq
  cases hc
  exact⟨e,o,f,heq⟩
 ·cases hc
theorem DW(hs:Sim w0 ρ h w){b:Key}{L:Loc}(hb:ρ b=some L){cs:List AV}{e opn fz}(hg:h.get b=some (.cells e cs opn fz)){off n:Nat}(hle:off+n≤cs.length):
  ∃ Os:List Value,RelL ρ ((cs.drop off).take n) Os∧∀ w':World,w'.heap=w.heap→(loadCells ⟨L.B,L.base+off,none⟩ n).run P w'=.ok Os.toArray w':=by
 obtain⟨D,hD⟩:=lg (P:=P) hs hb off
 have hc:aW h b off n=some ((cs.drop off).take n):=by
  unfold aW cellsOf
  rw [hg]
  simp only [bU,bB,aG]
  rw [show ((cs.drop off).take n).length=n by simp;omega]
  simp
 obtain⟨h1,h2⟩:=hD n _ hc
 exact⟨_,h1,h2⟩
theorem ou{a:Addr}{l c size n:Nat}:Builtin.firstCells size n (.slice (some a) l c)=loadCells a (n * size):=rfl
theorem rB:∀ l:List AV,nH l=dq l
 | []=>rfl
 | v::r=>by unfold nH dq;rw [rB r]
theorem Ht(hs:Sim w0 ρ h w){b:Key}{L L':Loc}{o o':AObj}{O:Obj}{w':World}{k:Key→Heap→Res}{s:Sem Value}(hb:ρ b=some L)(hg:h.get b=some o)(hlive:o.live=true)(hB':L'.B=L.B)
  (hN:¬ w0.F L.B) (hos:w'.os=w.os) (hout:w'.output=w.output) (hsz:w'.heap.size=w.heap.size) (hsame:∀ k,k≠L.B→w'.heap[k]?=w.heap[k]?) (hat:w'.heap[L.B]?=some O)
  (ho:∀ b',ρ b'=none→ObjRel w0.F (ρ.add b' L') L' (some O) o')
  (hk:∀ b' h',Sub ρ (ρ.add b' L')→Kept ρ h (ρ.add b' L') h'→Sim w0 (ρ.add b' L') h' w'→ValOk P w0 ρ h w s (k b' h')):ValOk P w0 ρ h w s ((h.put b .dead).alloc o' k):=by
 have hkill:=hs.kill hb hg hlive
 have hkp:Kept ρ h ρ (h.put b .dead):=aK hb
 have hmove:∀ b',(h.put b .dead).get b'=none→Sim w0 (ρ.add b' L') ((h.put b .dead).put b' o') w':=
  fun b' hb'=>hs.move hb hg hlive hb' hB' hN hos hout hsz hsame hat (ho b' (hkill.none_of_get hb'))
 generalize hh1:h.put b .dead=h1 at *
 obtain⟨t,n⟩:=h1
 show ValOk P w0 ρ _ w s (Heap.allocT t n o' k)
 unfold Heap.allocT
 cases e:t.get n with
 | some x=>exact trivial
 | none=>
  have hb':(Heap.mk t n).get n=none:=e
  have hn:=hkill.none_of_get hb'
  have a1:=hmove n hb'
  have a2:Sim w0 (ρ.add n L') (Heap.mk (t.set o' n) (bV n)) w':=⟨a1.os,a1.out,a1.size,a1.old,a1.sub,a1.obj,a1.inj⟩
  have a3:Kept ρ (Heap.mk t n) (ρ.add n L') (Heap.mk (t.set o' n) (bV n)):=fun k x g e=>eZ (h:=.mk t n) (o:=o') (L:=L') hb' k x g e
  exact hk n _ (Rho.sub_add hn) (hkp.trans a3) a2
theorem AU(_hP:TypesOk P)(hs:Sim w0 ρ h w){ts:Array Nat}{t t1 ty e n:Nat}{i:TypeInfo}{s:AV}{S X:Value}{news:List AV}{New:List Value}(h0:ts[0]?=some t)(h1:ts[1]?=some t1)(hu:P.underlying t=some (.slice e))(hi:P.info? e=some i)(hpos:0 < i.size)(hzf:ue P e=true)
  (ht1:kW P t1=true) (hS:Rel ρ s S) (hr:RelL ρ news New) (hlen:news.length=n * i.size) (hl:∀ w',(Builtin.lenOf X).run P w'=.ok n w')
  (hf:∀ w':World,w'.heap=w.heap→(Builtin.firstCells i.size n X).run P w'=.ok New.toArray w'):ValOk P w0 ρ h w (Builtin.append_ ts ty #[S,X]) (nJ P h e i.size s n news):=by
 obtain⟨Z,hZ,hZs⟩:∃ Z,i.zero=some Z∧Z.cells.size=i.size:=by
  unfold ue at hzf
  rw [hi] at hzf
  dsimp only at hzf
  cases hz:i.zero with
  | none=>simp [hz] at hzf
  | some Z=>rw [hz] at hzf;exact⟨Z,rfl,Nat.eq_of_beq_eq_true hzf⟩
 have hnl:=hr.length
 have hf0:=hf w rfl
 have hf1:=hf w.drew rfl
 have n0:n=0→New=[]:=by
  intro e0;subst e0;apply List.eq_nil_of_length_eq_zero;rw [hnl,hlen];omega
 -- a slice at a known row
 have slc:∀ (b:Key) (off len:Nat) (cap:ACap) (c:Nat) (L:Loc),ρ b=some L→S=.slice (some ⟨L.B,L.base+off,none⟩) len c→Rel ρ (.slice b off len cap) S→
   (match cap with | .is c'=>c'=c | .more sz=>len≤c∧L.base+off+c * sz=L.total)→ValOk P w0 ρ h w (Builtin.append_ ts ty #[S,X]) (nJ P h e i.size (.slice b off len cap) n news):=by
  intro b off len cap c L hb hSe hSr hcap
  subst hSe
  dsimp only [nJ]
  refine aa (fun hn0=>?_) (fun hn0=>?_)
  ·have hn0:=Nat.eq_of_beq_eq_true hn0
   refine aa (fun hroom=>?_) (fun _=>trivial)
   refine au hs hSr ?_
   have hlc:len≤c:=by
    cases cap with
    | is c'=>dsimp only at hcap;subst hcap;exact Nat.le_of_ble_eq_true hroom
    | more sz=>exact hcap.1
   have:=dW (ty:=ty) (w:=w) (w':=w) (base:=some ⟨L.B,L.base+off,none⟩) (len:=len) (c:=c) h0 h1 hu hi ht1 (hl w) hf0 (by omega) (by rw [n0 hn0];simp [storeCells])
   rw [hn0] at this
   exact this
  ·have hnpos:n≠0:=by intro e0;subst e0;simp at hn0
   cases hc:nI (h.get b) with
   | none=>exact trivial
   | some cs=>
    obtain⟨el,opn,fz,hg⟩:=uS hc
    dsimp only
    rw [aG]
    refine aa (fun hle=>?_) (fun _=>trivial)
    have hle:=Nat.le_of_ble_eq_true hle
    refine aa (fun hsure=>?_) (fun _=>trivial)
    obtain⟨Os,hOs,hOrun⟩:=DW (P:=P) hs hb hg hle
    have hallr:RelL ρ ((cs.drop off).take (len * i.size)++news) (Os++New):=hOs.append hr
    have halll:((cs.drop off).take (len * i.size)++news).length=(len+n) * i.size:=by
     rw [List.length_append,List.length_take,List.length_drop,hlen,Nat.add_mul];omega
    have hgrow:c < len+n→(len+n) * i.bytes≤1000000000→len+n≤1000000000→
      (Builtin.append_ ts ty #[.slice (some ⟨L.B,L.base+off,none⟩) len c,X]).run P w=.ok (.slice (some ⟨w.heap.size,0,none⟩) (len+n) (grownCap w (len+n) c e)) (w.drew.alloc (.cells ((Os++New)++(Builtin.zeroCells Z.cells (grownCap w (len+n) c e - (len+n))).toList).toArray e)):=by
     intro hgt b1 b2
     exact iU h0 h1 hu hi hZ ht1 hl hf1 (by rw [ou];exact hOrun w.drew rfl) hgt b1 b2
    have hplace:∀ w',len+n≤c→(storeCells ⟨L.B,L.base+(off+len * i.size),none⟩ New).run P w=.ok () w'→
      (Builtin.append_ ts ty #[.slice (some ⟨L.B,L.base+off,none⟩) len c,X]).run P w=.ok (.slice (some ⟨L.B,L.base+off,none⟩) (len+n) c) w':=by
     intro w' hlc hst
     exact dW (base:=some ⟨L.B,L.base+off,none⟩) h0 h1 hu hi ht1 (hl w) hf0 hlc (by dsimp only;rw [eW];exact hst)
    unfold D7
    simp only [aL,bU,bB,aG]
    cases cap with
    | is c'=>
     dsimp only at hcap
     subst hcap
     dsimp only
     refine aa (fun hfit=>?_) (fun hfit=>?_)
     ·have hfit:=Nat.le_of_ble_eq_true hfit
      unfold inPlace
      cases hset:bo h b (off+len * i.size) news with
      | none=>exact trivial
      | some h'=>
       obtain⟨w',hrun,hsim,hk⟩:=eD (P:=P) hs hb hr hset
       exact⟨ρ,_,w',Sub.refl _,hk,hsim,.sliceIs b off (len+n) c' L hb,hplace w' hfit hrun⟩
     ·have hgt:c' < len+n:=by
       rcases Nat.lt_or_ge c' (len+n) with h' | h'
       ·exact h'
       ·rw [Nat.ble_eq_true_of_le h'] at hfit;cases hfit
      exact mH (Kept.refl _ _) hs hi hZ hZs hallr halll (hgrow hgt)
    | more sz=>
     obtain⟨hlc,htot⟩:=hcap
     dsimp only
     refine aa (fun hsz=>?_) (fun _=>trivial)
     have hsz:=Nat.eq_of_beq_eq_true hsz
     subst hsz
     have hobj:=hs.obj b L hb
     obtain⟨o,ho,hltB,hrel⟩:=hobj
     rw [hg] at ho;cases ho
     have hrel0:=hrel
     obtain⟨hN,C,q,hO,hCs,hFz,hC,hop,hfz0⟩:=hrel
     refine aa (fun hfit=>?_) (fun hfit=>?_)
     ·have hfit:=Nat.le_of_ble_eq_true hfit
      have hcn:len+n≤c:=by
       have:L.base+cs.length≤L.total:=by rw [←hCs];exact hC.1
       have h2:(len+n) * i.size≤c * i.size:=by omega
       exact Nat.le_of_mul_le_mul_right h2 hpos
      unfold inPlace
      cases hset:bo h b (off+len * i.size) news with
      | none=>exact trivial
      | some h'=>
       obtain⟨w',hrun,hsim,hk⟩:=eD (P:=P) hs hb hr hset
       exact⟨ρ,_,w',Sub.refl _,hk,hsim,.sliceMore b off (len+n) c _ L hb hcn htot,hplace w' hcn hrun⟩
     ·have hfe:Gc (h.get b)=some (el,fz):=by rw [hg];rfl
      rw [hfe]
      unfold zJ
      simp only [aL,bU,bB]
      refine aa (fun hcc=>?_) (fun _=>trivial)
      rw [Bool.and_eq_true] at hcc
      have hel:=Nat.eq_of_beq_eq_true hcc.1
      have hfzle:=Nat.le_of_ble_eq_true hcc.2
      subst hel
      rw [af]
      by_cases hgt:c < len+n
      ·exact mH (aK hb) (hs.kill hb hg rfl) hi hZ hZs hallr halll (hgrow hgt)
      ·-- there was room behind what is known
       have hcn:len+n≤c:=by omega
       have hmul:(len+n) * i.size≤c * i.size:=Nat.mul_le_mul_right _ hcn
       rw [Nat.add_mul] at hmul
       have hN1:New.length=n * i.size:=by rw [hnl,hlen]
       have hin:L.base+(off+len * i.size)+0+New.length≤C.size:=by rw [hCs];omega
       have hone:∀ V ∈ New,V.oneCell'=true:=lK hr (by rw [←rB];exact hsure)
       have hnf:∀ j,L.base+(off+len * i.size)+0≤j→j < L.base+(off+len * i.size)+0+New.length→¬ (q.1≤j∧j < q.2):=by
        intro j hj1 hj2 hj
        rcases hFz j hj.1 hj.2 with h' | h'
        ·omega
        ·omega
       have hst:=ja (P:=P) (B:=L.B) (o:=L.base+(off+len * i.size)) New 0 w C hO hin hone hnf
       unfold tW
       refine aa (fun _=>?_) (fun _=>trivial)
       have hfun:(fun b h=>ak (len+n) (fun m=>Res.val (.slice b 0 m (.more i.size)) h))=(fun (b:Key) (h:Heap)=>Res.val (.slice b 0 (len+n) (.more i.size)) h):=by funext b h;rw [af]
       rw [hfun]
       have hlen':(C.toList.take (L.base+(off+len * i.size)+0)++New++C.toList.drop (L.base+(off+len * i.size)+0+New.length)).length=L.total:=by
        simp only [List.length_append,List.length_take,List.length_drop,Array.length_toList,hCs]
        rw [hCs] at hin;omega
       refine Ht hs hb hg rfl (w':=al w L.B (.cells (C.toList.take (L.base+(off+len * i.size)+0)++New++C.toList.drop (L.base+(off+len * i.size)+0+New.length)).toArray el q)) (L':=⟨L.B,L.base+off,L.total⟩) rfl hN rfl rfl (by simp [al]) (fun k hk=>aO hk) (aV hltB) ?_ ?_
       ·exact fun b' hn=>⟨hN,_,q,rfl,by simpa using hlen',fun j h1 h2=>by rcases hFz j h1 h2 with h' | h'<;>first | (left;show j < L.base+off+(fz - off);omega) | (right;exact h'),⟨by
          show L.base+off+_≤_
          rw [halll,List.size_toArray,hlen',Nat.add_mul];omega,by
          refine RelL.mono (Rho.sub_add hn) ?_
          show RelL ρ _ ((List.drop (L.base+off) _).take _)
          rw [halll]
          have e1:(C.toList.take (L.base+(off+len * i.size)+0)++New++C.toList.drop (L.base+(off+len * i.size)+0+New.length)).drop (L.base+off)=(C.toList.drop (L.base+off)).take (len * i.size)++(New++C.toList.drop (L.base+(off+len * i.size)+0+New.length)):=by
           rw [List.append_assoc,List.drop_append_of_le_length (by simp only [List.length_take,Array.length_toList];rw [hCs] at hin ⊢;omega)]
           congr 1
           rw [List.drop_take]
           congr 1
           omega
          rw [e1,←List.append_assoc]
          have e2:((C.toList.drop (L.base+off)).take (len * i.size)++New).length=(len+n) * i.size:=by
           simp only [List.length_append,List.length_take,List.length_drop,Array.length_toList,hN1,Nat.add_mul]
           rw [hCs] at hin ⊢;omega
          have e4:∀ (A B:List Value) (m:Nat),A.length=m→(A++B).take m=A:=by
           intro A B m hm;subst hm;simp
          rw [e4 _ _ _ e2]
          refine RelL.append ?_ hr
          have:=(hC.2.drop off).take (len * i.size)
          have e3:((((C.toList.drop L.base).take cs.length).drop off).take (len * i.size))=(C.toList.drop (L.base+off)).take (len * i.size):=by
           rw [List.drop_take,List.take_take,List.drop_drop]
           congr 1
           omega
          rw [e3] at this
          exact this⟩,fun e=>(by cases e),fun _ e=>(by cases e)⟩
       ·intro b' h' hsub hk hs'
        exact⟨_,_,_,hsub,hk,hs',Rel.sliceMore b' 0 (len+n) c i.size ⟨L.B,L.base+off,L.total⟩ (Rho.add_same _ _ _) hcn (by simpa using htot),by simpa using hplace _ hcn hst⟩
 cases hS with
 | nilSlice=>
  dsimp only [nJ]
  refine aa (fun hn0=>?_) (fun hn0=>?_)
  ·have hn0:=Nat.eq_of_beq_eq_true hn0
   refine au hs .nilSlice ?_
   have:=dW (ty:=ty) (w:=w) (w':=w) (base:=none) (len:=0) (c:=0) h0 h1 hu hi ht1 (hl w) hf0 (by omega) rfl
   rw [hn0] at this
   exact this
  ·have hnpos:n≠0:=by intro e0;subst e0;simp at hn0
   refine aa (fun hsure=>?_) (fun _=>trivial)
   refine mH (c:=0) (Kept.refl _ _) hs hi hZ hZs hr hlen ?_
   intro b1 b2
   have:=iU (ty:=ty) (Old:=[]) (base:=none) (len:=0) (c:=0) (w:=w) h0 h1 hu hi hZ ht1 hl hf1 (by simp [Builtin.firstCells]) (by omega) (by simpa using b1) (by simpa using b2)
   simpa using this
 | sliceIs b off len c L hb=>exact slc b off len _ c L hb rfl (.sliceIs b off len c L hb) rfl
 | sliceMore b off len c sz L hb hc ht=>exact slc b off len _ c L hb rfl (.sliceMore b off len c sz L hb hc ht) ⟨hc,ht⟩
 | _=>exact trivial
end
end Go.VM
namespace Go.VM
section
variable {P:Program} {w0:Base} {ρ:Rho} {h:Heap} {w:World}
theorem gj{ρ:Rho}:∀ {bs:List AV} {Cs:List Value},RelL ρ bs Cs→jI bs=true→∃ bs',RelL ρ bs' Cs∧aM bs'=true
 | _,_,.nil,_=>⟨[],.nil,rfl⟩
 | _,_,.cons v V r R hv hr,h=>by
  unfold jI at h
  split at h
  ·rename_i heq;cases heq
  ·rename_i n r' heq
   cases heq
   cases hlt:Nat.blt n 256 with
   | false=>rw [hlt] at h;cases h
   | true=>
    rw [hlt] at h
    obtain⟨bs',h1,h2⟩:=gj hr h
    exact⟨_,.cons _ _ _ _ hv h1,by show cond (Nat.blt n 256) (aM bs') false=true;rw [hlt];exact h2⟩
  ·rename_i r' heq
   cases heq
   obtain⟨bs',h1,h2⟩:=gj hr h
   cases hv with
   | byte b=>
    refine⟨.int .u8 (Int.ofNat b.toNat)::bs',.cons _ _ _ _ (.int _ _) h1,?_⟩
    show cond (Nat.blt b.toNat 256) (aM bs') false=true
    have:Nat.blt b.toNat 256=true:=by rw [Nat.blt_eq];exact b.toNat_lt
    rw [this];exact h2
  ·cases h
theorem DX{e:TypeId}(hc:P.cellsOf e=1)(count off n:Nat)(hn:off+n≤count):liesAt P P.depth e count off e n=true:=by
 have hd:P.depth=(2 * (P.types.size+Made.depth)+1)+1:=rfl
 rw [hd]
 simp only [liesAt,Bool.or_eq_true]
 left
 rw [hd]
 simp [rowAt,hc,hn,sameLayout,Nat.mod_one]
theorem DY{B o n:Nat}{C:Array Value}{e:TypeId}{q:Nat × Nat}(hO:w.heap[B]?=some (.cells C e q))(hn:n≠0):∃ q',w.freeze ⟨B,o,none⟩ n=al w B (.cells C e q'):=by
 have hB:B < w.heap.size:=(Array.getElem?_eq_some_iff.1 hO).1
 have hv:w.heap[B]=.cells C e q:=(Array.getElem?_eq_some_iff.1 hO).2
 refine⟨(if q.1 == q.2 then (o,o+n) else (min q.1 o,max q.2 (o+n))),?_⟩
 unfold World.freeze al
 rw [if_neg hn]
 congr 1
 apply Array.ext_getElem?
 intro i
 simp only [Array.getElem?_modify,Array.getElem?_setIfInBounds]
 by_cases hi:B=i
 ·subst hi;simp [hB,hv]
 ·simp [hi]
theorem ow(hs:Sim w0 ρ h w){pt ty:Nat}{ts:Array Nat}{b:Key}{off n:Nat}{L:Loc}{k:IntKind}(h0:ts[0]?=some pt)(hb:ρ b=some L):
  ValOk P w0 ρ h w (Builtin.unsafeString_ ts ty #[.pointer (some ⟨L.B,L.base+off,none⟩),.int k (Int.ofNat n)]) (gq P pt b off n h):=by
 unfold gq
 split
 ·rename_i u e cs opn fz hu hg
  refine aa (fun hc=>?_) (fun _=>trivial)
  simp only [Bool.and_eq_true] at hc
  obtain⟨⟨hue,hby⟩,hsz,hn⟩:=hc
  have hue:=Nat.eq_of_beq_eq_true hue
  have hsz:=Nat.eq_of_beq_eq_true hsz
  have hn:n≠0:=by intro e0;subst e0;simp at hn
  subst hue
  cases hc:aW h b off n with
  | none=>exact trivial
  | some bs=>
   dsimp only
   obtain⟨o,ho,hlt,hr⟩:=hs.obj b L hb
   rw [hg] at ho;cases ho
   obtain⟨hN,C,q,hO,htot,_,hC,_,_⟩:=hr
   have hbs:bs=(cs.drop off).take n∧off+n≤cs.length:=by
    have hcs:cellsOf (h.get b)=some cs:=by rw [hg];rfl
    unfold aW at hc;rw [hcs] at hc;simp only [bU,bB,aG] at hc
    cases hlb:Nat.beq ((cs.drop off).take n).length n with
    | false=>rw [hlb] at hc;cases hc
    | true=>
     rw [hlb] at hc
     have h1:=Nat.eq_of_beq_eq_true hlb
     have h2:(cs.drop off).take n=bs:=by simpa using hc
     exact⟨h2.symm,by simp at h1;omega⟩
   have hrel:=(hC.2.drop off).take n
   rw [←hbs.1] at hrel
   have hbl:bs.length=n:=(eY hc (Nat.le_refl _)).1
   obtain⟨q',hq'⟩:=DY (o:=L.base+off) hO hn
   have hs2:Sim w0 ρ (h.put b (.fixed u cs)) (al w L.B (.cells C u q')):=hs.put hb hg rfl hN rfl rfl (by simp [al]) (fun k hk=>aO hk) (aV hlt) ⟨C,q',⟨_,rfl⟩,htot,hC⟩
   have run:n≤1000000→∀ bs',RelL ρ bs' ((((C.toList.drop L.base).take cs.length).drop off).take n)→bs'.length=n→aM bs'=true→aB bs' < 256 ^ n∧(Builtin.unsafeString_ ts ty #[.pointer (some ⟨L.B,L.base+off,none⟩),.int k (Int.ofNat n)]).run P w=.ok (.string (strOf n (aB bs'))) (al w L.B (.cells C u q')):=by
    intro hlong bs' hrel hbl hab
    obtain⟨ns,e1,e2,e3⟩:=fJ hrel hab
    rw [e2]
    have hnl:ns.length=n:=by omega
    have hlt2:=dD ns
    have hcell:∀ j x,ns[j]?=some x→w.cell? ((⟨L.B,L.base+off,none⟩:Addr).add j)=some (.int .u8 x.toNat):=by
     intro j x hx
     rw [eW]
     have hjn:j < n:=by rw [←hnl];exact (List.getElem?_eq_some_iff.1 hx).1
     have hX:((((C.toList.drop L.base).take cs.length).drop off).take n)[j]?=some (.int .u8 x.toNat):=by rw [e1];simp [hx]
     rw [List.getElem?_take,if_pos hjn,List.getElem?_drop,List.getElem?_take,if_pos (by omega),List.getElem?_drop] at hX
     simp only [World.cell?,hO]
     simpa using hX
    have hlb:=Lib.run_loadBytes (P:=P) w ns ⟨L.B,L.base+off,none⟩ .empty hcell
    rw [hnl] at hlb
    have hsz':P.cellsOf u=1:=hsz
    have hlies:=DX (P:=P) hsz' (C.size / P.cellsOf u) (L.base+off) n (by rw [hsz'];have:=hC.1;have:=hbs.2;simp;omega)
    have hstr:(⟨ByteArray.empty.data++ns.toArray⟩:ByteArray)=strOf n (aZ ns):=by rw [←hnl,←im ns];simp
    rw [hstr] at hlb
    refine⟨by rw [←hnl];exact hlt2,?_⟩
    have hmax:¬ ((n:Int) > IntKind.i64.max):=by show ¬ (n:Int) > 9223372036854775807;omega
    have hneg:¬ ((n:Int) < 0):=by omega
    have hsh:w.shape? L.B=some (u,C.size):=by simp [World.shape?,hO]
    rw [←hq']
    have hdef:Builtin.unsafeString_ ts ty #[.pointer (some ⟨L.B,L.base+off,none⟩),.int k (Int.ofNat n)]=(do
      let m ←asInt (.int k (Int.ofNat n))
      let some pt:=ts[0]? | stuck "unsafe.String: no argument types"
      if m < 0 then runtimePanic (.error "unsafe.String: len out of range")
      if m > IntKind.i64.max then unsupported (.unsafePointer "String: a length above the largest int")
      if m=0 then pure (.string .empty)
      else if ←variablesAt ⟨L.B,L.base+off,none⟩ (←elemOf pt) m.toNat then do
       let s ←loadBytes ⟨L.B,L.base+off,none⟩ .empty m.toNat
       freeze ⟨L.B,L.base+off,none⟩ m.toNat
       pure (.string s)
      else unsupported (.unsafePointer "String: not so many bytes at ptr")):=rfl
    rw [hdef]
    simp only [h0,Sem.run_bind,eR,Result.andThen_ok]
    have e5:(Int.ofNat n)=(n:Int):=rfl
    simp [hn,variablesAt,hsh,elemOf,a8 hu,hlies,hlb]
    rw [if_neg hneg,if_neg (by omega)]
   refine aa (fun hab=>?_) (fun _=>?_)
   ·unfold strV
    rw [af,af]
    refine aa (fun hlong=>?_) (fun _=>trivial)
    obtain⟨h1,h2⟩:=run (Nat.le_of_ble_eq_true hlong) bs hrel hbl hab
    exact⟨ρ,_,_,Sub.refl _,aK hb,hs2,.str n _ h1,h2⟩
   ·unfold II
    refine aa (fun hau=>aa (fun hlong=>?_) (fun _=>trivial)) (fun _=>?_)
    ·obtain⟨bs',hr',ha'⟩:=gj hrel hau
     obtain⟨_,h2⟩:=run (Nat.le_of_ble_eq_true hlong) bs' hr' (by have e1:=hr'.length;have e2:=hrel.length;omega) ha'
     exact⟨ρ,_,_,Sub.refl _,aK hb,hs2,.ustr n _ (aI _ _),h2⟩
    unfold tabConv
    cases hk:jA bs with
    | none=>exact trivial
    | some sb=>
     obtain⟨M,hM⟩:=eS hrel hk
     dsimp only
     refine aa (fun hlong=>?_) (fun _=>trivial)
     have hlong:=Nat.le_of_ble_eq_true hlong
     cases ht:nN sb n bs (b9 ((h.put b (.fixed u cs)).get sb)) with
     | none=>exact trivial
     | some rs=>
      cases rs with
      | nil=>exact trivial
      | cons v r=>
       by_cases hne:b9 ((h.put b (.fixed u cs)).get sb)=[]
       ·rw [hne] at ht;injection ht with ht;cases ht
       ·obtain⟨_,hm⟩:=dU hs2 hM hne
        obtain⟨hb2,he⟩:=mG ht _ hm
        have hp:=eC hM hrel
        obtain⟨h1,h2⟩:=run hlong _ hp (by have e1:=hp.length;have e2:=hrel.length;omega) hb2
        exact⟨ρ,_,_,Sub.refl _,aK hb,hs2,.tab sb _ _ M _ hM (by rw [he];rfl) (by rw [he];exact .str n _ h1),h2⟩
 ·exact trivial
theorem dS{ts:Array Nat}{pt ty:Nat}{k:IntKind}(h0:ts[0]?=some pt)(p:Option Addr):(Builtin.unsafeString_ ts ty #[.pointer p,.int k (Int.ofNat 0)]).run P w=.ok (.string .empty) w:=by
 have hmax:¬ ((0:Int) > IntKind.i64.max):=by show ¬ (0:Int) > 9223372036854775807;omega
 cases p with
 | none=>
  have hdef:Builtin.unsafeString_ ts ty #[.pointer none,.int k (Int.ofNat 0)]=(do
    let m ←asInt (.int k (Int.ofNat 0))
    let some _:=ts[0]? | stuck "unsafe.String: no argument types"
    if m < 0 then runtimePanic (.error "unsafe.String: len out of range")
    if m > IntKind.i64.max then unsupported (.unsafePointer "String: a length above the largest int")
    if m=0 then pure (.string .empty)
    else runtimePanic (.error "unsafe.String: ptr is nil and len is not zero")):=rfl
  rw [hdef]
  simp only [h0,Sem.run_bind,eR,Result.andThen_ok]
  simp
 | some a=>
  have hdef:Builtin.unsafeString_ ts ty #[.pointer (some a),.int k (Int.ofNat 0)]=(do
    let m ←asInt (.int k (Int.ofNat 0))
    let some pt:=ts[0]? | stuck "unsafe.String: no argument types"
    if m < 0 then runtimePanic (.error "unsafe.String: len out of range")
    if m > IntKind.i64.max then unsupported (.unsafePointer "String: a length above the largest int")
    if m=0 then pure (.string .empty)
    else if ←variablesAt a (←elemOf pt) m.toNat then do
     let s ←loadBytes a .empty m.toNat
     freeze a m.toNat
     pure (.string s)
    else unsupported (.unsafePointer "String: not so many bytes at ptr")):=rfl
  rw [hdef]
  simp only [h0,Sem.run_bind,eR,Result.andThen_ok]
  simp
theorem yE(hs:Sim w0 ρ h w){pt ty:Nat}{ts:Array Nat}{p n:AV}{Pv Nv:Value}(h0:ts[0]?=some pt)(hp:Rel ρ p Pv)(hn:Rel ρ n Nv):ValOk P w0 ρ h w (Builtin.unsafeString_ ts ty #[Pv,Nv]) (uk P pt p n h):=by
 cases hn with
 | int k m=>
  cases m with
  | negSucc m=>exact trivial
  | ofNat m=>
   dsimp only [uk]
   refine aa (fun hm=>?_) (fun hm=>?_)
   ·have hm:=Nat.eq_of_beq_eq_true hm
    subst hm
    cases hp with
    | nilPtr=>exact au hs (.str 0 0 (by decide)) (dS h0 none)
    | ptr b off L hb=>exact au hs (.str 0 0 (by decide)) (dS h0 _)
    | _=>exact trivial
   ·cases hp with
    | ptr b off L hb=>exact ow hs h0 hb
    | _=>exact trivial
 | _=>exact trivial
theorem uT(hs:Sim w0 ρ h w){ty:Nat}{ts:Array Nat}{x:AV}{X:Value}(hx:Rel ρ x X):ValOk P w0 ρ h w (Builtin.unsafeSliceData_ ts ty #[X]) (uj x h):=by
 cases hx with
 | nilSlice=>exact au hs .nilPtr rfl
 | sliceIs b off len c L hb=>
  refine aa (fun _=>trivial) (fun hc=>?_)
  have hc:c≠0:=by intro e;subst e;simp at hc
  exact au hs (.ptr b off L hb) (Lib.run_unsafeSliceData_row w ts ty _ len c hc)
 | sliceMore b off len c sz L hb h1 h2=>
  refine aa (fun _=>trivial) (fun hc=>?_)
  have hc:len≠0:=by intro e;subst e;simp at hc
  exact au hs (.ptr b off L hb) (Lib.run_unsafeSliceData_row w ts ty _ len c (by omega))
 | _=>exact trivial
theorem oz(hs:Sim w0 ρ h w){k:IntKind}:∀ {r:List AV} {R:List Value} (a:Int),RelL ρ r R→ValOk P w0 ρ h w (R.foldlM Builtin.min2 (.int k a)) (pj k a h r)
 | _,_,a,.nil=>au hs (.int k a) (by simp)
 | _,_,a,.cons _ _ _ _ hx hr=>by
  cases hx with
  | int k' b=>
   dsimp only [pj]
   rw [qU]
   refine aa (fun hc=>?_) (fun hc=>?_)
   ·have hc:b < a:=by simpa using hc
    rw [List.foldlM_cons]
    simp only [Builtin.min2,hc,if_true]
    exact oz hs b hr
   ·have hc:¬ b < a:=by simpa using hc
    rw [List.foldlM_cons]
    simp only [Builtin.min2,hc,if_false]
    exact oz hs a hr
  | _=>exact trivial
theorem oA(hs:Sim w0 ρ h w){k:IntKind}:∀ {r:List AV} {R:List Value} (a:Int),RelL ρ r R→ValOk P w0 ρ h w (R.foldlM Builtin.max2 (.int k a)) (pm k a h r)
 | _,_,a,.nil=>au hs (.int k a) (by simp)
 | _,_,a,.cons _ _ _ _ hx hr=>by
  cases hx with
  | int k' b=>
   dsimp only [pm]
   rw [qU]
   refine aa (fun hc=>?_) (fun hc=>?_)
   ·have hc:a < b:=by simpa using hc
    rw [List.foldlM_cons]
    simp only [Builtin.max2,hc,if_true]
    exact oA hs b hr
   ·have hc:¬ a < b:=by simpa using hc
    rw [List.foldlM_cons]
    simp only [Builtin.max2,hc,if_false]
    exact oA hs a hr
  | _=>exact trivial
theorem EW(hs:Sim w0 ρ h w){ty:Nat}{ts:Array Nat}{args:List AV}{A:List Value}(hr:RelL ρ args A):ValOk P w0 ρ h w (Builtin.min_ ts ty ⟨A⟩) (De args h):=by
 cases hr with
 | nil=>exact trivial
 | cons _ _ _ _ hx hr=>
  cases hx with
  | int k a=>exact oz hs a hr
  | _=>exact trivial
theorem EX(hs:Sim w0 ρ h w){ty:Nat}{ts:Array Nat}{args:List AV}{A:List Value}(hr:RelL ρ args A):ValOk P w0 ρ h w (Builtin.max_ ts ty ⟨A⟩) (Df args h):=by
 cases hr with
 | nil=>exact trivial
 | cons _ _ _ _ hx hr=>
  cases hx with
  | int k a=>exact oA hs a hr
  | _=>exact trivial
theorem DZ{t:Nat}(ht:Gl P t=true):∃ e,P.underlying t=some (.slice e):=by
 unfold Gl at ht
 cases hu:P.underlying t with
 | none=>simp [hu] at ht
 | some d=>cases d<;>simp [hu] at ht;exact⟨_,rfl⟩
theorem Hu(hs:Sim w0 ρ h w){t ty:Nat}{ts:Array Nat}{x:AV}{X:Value}(h0:ts[0]?=some t)(hx:Rel ρ x X):ValOk P w0 ρ h w (Builtin.cap_ ts ty #[X]) (Gm P t x h):=by
 unfold Gm
 refine aa (fun ht=>?_) (fun _=>trivial)
 obtain⟨e,hu⟩:=DZ ht
 cases hx with
 | nilSlice=>exact au hs (.int .i64 _) (by simp [Builtin.cap_,h0,a8 hu,goInt])
 | sliceIs b off len c L hb=>exact au hs (.int .i64 _) (by simp [Builtin.cap_,h0,a8 hu,goInt])
 | _=>exact trivial
theorem E0(hs:Sim w0 ρ h w){t ty:Nat}{ts:Array Nat}{x:AV}{X:Value}(h0:ts[0]?=some t)(hx:Rel ρ x X):ValOk P w0 ρ h w (Builtin.clear_ ts ty #[X]) (BN P t x h):=by
 unfold BN
 refine aa (fun ht=>?_) (fun _=>trivial)
 unfold known at ht
 cases hu:P.underlying t with
 | none=>simp [hu] at ht
 | some d=>
  cases hx with
  | nilMap=>exact au hs .undef (by cases d<;>simp [Builtin.clear_,h0,a8 hu])
  | nilSlice=>exact au hs .undef (by cases d<;>simp [Builtin.clear_,h0,a8 hu])
  | emptyS a c=>exact au hs .undef (by cases d<;>simp [Builtin.clear_,h0,a8 hu])
  | map m L hm=>
   dsimp only
   cases hg:h.get m with
   | none=>exact trivial
   | some o=>
    cases o with
    | map es clock=>
     obtain⟨_,hlt,E,hO,hE⟩:=eM hs hm hg
     refine⟨ρ,.tuple #[],_,Sub.refl _,aK hm,mB hs hm hg (E':=#[]) .nil,.undef,?_⟩
     cases d<;>simp [Builtin.clear_,h0,a8 hu,ai hO (by simp),aR hO (by simp)]
    | umap um l n=>
     obtain⟨hN,hlt,E,clock,hO,_,_⟩:=gJ hs hm hg
     refine⟨ρ,.tuple #[],_,Sub.refl _,aK hm,AO hs hm hg clock,.undef,?_⟩
     cases d<;>simp [Builtin.clear_,h0,a8 hu,ai hO (by simp),aR hO (by simp)]
    | _=>exact trivial
  | _=>exact trivial
theorem mI:∀ n c,dq (az n c)=true
 | 0,_=>rfl
 | n+1,c=>by
  show cond (AV.one (.int .u8 (Int.ofNat (c % 256)))) (dq (az n (c / 256))) false=true
  exact mI n _
theorem rC{s:Sem Value}{v:AV}{h1 h2 h':Heap}{b:Key}{L:Loc}(hb:ρ b=some L)(hx1:∀ k,k≠b→h1.get k=h.get k)(hx2:∀ k,k≠b→h'.get k=h2.get k)(hsim:∀ ρ' w',Sub ρ ρ'→Sim w0 ρ' h2 w'→Sim w0 ρ' h' w')(hv:dv P w0 ρ h1 w s v h2):dv P w0 ρ h w s v h':=by
 obtain⟨ρ',V,w',hsub,hk,hs',hr,e⟩:=hv
 refine⟨ρ',V,w',hsub,fun k x g e=>?_,hsim _ _ hsub hs',hr,e⟩
 have hne:k≠b:=fun hkb=>by subst hkb;rw [hb] at e;cases e
 have:=hk k x (by rw [hx1 k hne];exact g) e
 exact⟨this.1,by rw [hx2 k hne];exact this.2⟩
theorem rD:∀ n c:Nat,az n c=aJ (ac n c)
 | 0,_=>rfl
 | n+1,c=>by
  show AV.int .u8 (Int.ofNat (c % 256))::az n (c / 256)=AV.int .u8 (Int.ofNat (UInt8.ofNat c).toNat)::aJ (ac n (c / 256))
  rw [rD n (c / 256)]
  simp
theorem mJ(hs:Sim w0 ρ h w){t ty e:Nat}{ts:Array Nat}{i:TypeInfo}{b:Key}{off dl l c e1 n:Nat}{cap:ACap}{D X:Value}(h0:ts[0]?=some t)(hu:P.underlying t=some (.slice e))(hi:P.info? e=some i)(hd:Rel ρ (.slice b off dl cap) D)(hx:Rel ρ (.str l c) X)(hg:h.get b=some (.bytes e1 n)):
  ValOk P w0 ρ h w (Builtin.copy_ ts ty #[D,X]) (kX n off dl l i.size h):=by
 have hb:∃ L,ρ b=some L:=by cases hd with | sliceIs _ _ _ _ L hb=>exact⟨L,hb⟩ | sliceMore _ _ _ _ _ L hb _ _=>exact⟨L,hb⟩
 obtain⟨L,hb⟩:=hb
 unfold kX
 refine aa (fun hc=>?_) (fun _=>trivial)
 simp only [Bool.and_eq_true] at hc
 have hsz:i.size=1:=Nat.eq_of_beq_eq_true hc.1
 have hle:=Nat.le_of_ble_eq_true hc.2
 rw [af]
 obtain⟨zs,hz,hs1⟩:=hs.known hb hg
 have h1:=de (P:=P) (s:=Builtin.copy_ ts ty #[D,X]) hs1 hx (size:=i.size) (k:=fun n cs=>gp i.size (.slice b off dl cap) n cs (h.put b (.cells e1 (aJ zs) false 0))) fun n cs Cs hr hlen hl hf=>ot hs1 h0 hu hi hd hr hlen (hl w) (fun m hm=>hf m hm w rfl)
 have htk:take (min l dl * 1) (az l c)=aJ ((ac l c).take (min l dl)):=by rw [bU,rD,Nat.mul_one];simp [aJ,List.map_take]
 have hyl:((ac l c).take (min l dl)).length=min l dl:=by rw [List.length_take,aD];omega
 generalize hys:(ac l c).take (min l dl)=ys at htk hyl
 have hsp:splice (aJ zs) off (aJ ys)=aJ (zs.take off++(ys++zs.drop (off+ys.length))):=by
  unfold splice
  rw [aL,aL,bU,bB,aG,cc]
  simp [aJ,List.map_take,List.map_drop]
 have hnl:(aJ (zs.take off++(ys++zs.drop (off+ys.length)))).length=n:=by
  rw [cc,List.length_append,List.length_append,List.length_take,List.length_drop];omega
 have hset:bo (h.put b (.cells e1 (aJ zs) false 0)) b off (aJ ys)=some ((h.put b (.cells e1 (aJ zs) false 0)).put b (.cells e1 (aJ (zs.take off++(ys++zs.drop (off+ys.length)))) false 0)):=by
  unfold bo
  rw [Heap.get_put_same]
  dsimp only
  have hle2:Nat.ble (off+VM.len (aJ ys)) (VM.len (aJ zs))=true:=by
   rw [aG,aG,cc,cc,Nat.ble_eq];omega
  have hz0:Nat.ble 0 off=true:=by rw [Nat.ble_eq];exact Nat.zero_le _
  rw [hle2,cond_true,yy,cond_true,hz0,cond_true,hsp]
 have hres:sliceCells (h.put b (.cells e1 (aJ zs) false 0)) i.size (fun n cs=>gp i.size (.slice b off dl cap) n cs (h.put b (.cells e1 (aJ zs) false 0))) (.str l c)=.val (.int .i64 (Int.ofNat (min l dl))) ((h.put b (.cells e1 (aJ zs) false 0)).put b (.cells e1 (aJ (zs.take off++(ys++zs.drop (off+ys.length)))) false 0)):=by
  rw [hsz]
  dsimp only [sliceCells]
  rw [show Nat.beq 1 1=true from rfl,cond_true]
  dsimp only [gp]
  rw [htk,hset]
 rw [hres] at h1
 refine rC hb (fun k2 hne=>Heap.get_put_other _ _ _ _ (Ne.symm hne)) (fun k2 hne=>?_) (fun ρ' w' _ hsm=>?_) h1
 ·rw [Heap.get_put_other _ _ _ _ (Ne.symm hne),Heap.get_put_other _ _ _ _ (Ne.symm hne)]
 ·have h3:=hsm.swap (o':=.bytes e1 n) (Heap.get_put_same _ b _) (fun L O hr=>ru hnl (kA _) hr) (fun _=>rfl)
  have hxx:∀ k2,h.get k2=(((h.put b (.cells e1 (aJ zs) false 0)).put b (.cells e1 (aJ (zs.take off++(ys++zs.drop (off+ys.length)))) false 0)).put b (.bytes e1 n)).get k2:=fun k2=>by
   by_cases e:b=k2
   ·subst e;rw [Heap.get_put_same];exact hg
   ·rw [Heap.get_put_other _ _ _ _ e,Heap.get_put_other _ _ _ _ e,Heap.get_put_other _ _ _ _ e]
  exact⟨h3.os,h3.out,h3.size,h3.old,h3.sub,fun b2 L2 e2=>by rw [hxx b2];exact h3.obj b2 L2 e2,fun b1 b2 L1 L2 o1 o2 e1 e2 g1 g2=>h3.inj b1 b2 L1 L2 o1 o2 e1 e2 (by rw [←hxx];exact g1) (by rw [←hxx];exact g2)⟩
theorem rE(hs:Sim w0 ρ h w){t ty e:Nat}{ts:Array Nat}{i:TypeInfo}{b:Key}{off dl l c e1 k:Nat}{t1:RT Nat}{cap:ACap}{D X:Value}(h0:ts[0]?=some t)(hu:P.underlying t=some (.slice e))(hi:P.info? e=some i)(hd:Rel ρ (.slice b off dl cap) D)(hx:Rel ρ (.str l c) X)(hg:h.get b=some (.pack e1 k t1)):
  ValOk P w0 ρ h w (Builtin.copy_ ts ty #[D,X]) (nT b e1 k t1 off dl l c i.size h):=by
 have hb:∃ L,ρ b=some L:=by cases hd with | sliceIs _ _ _ _ L hb=>exact⟨L,hb⟩ | sliceMore _ _ _ _ _ L hb _ _=>exact⟨L,hb⟩
 obtain⟨L,hb⟩:=hb
 unfold nT
 refine aa (fun hc=>?_) (fun _=>trivial)
 simp only [Bool.and_eq_true] at hc
 obtain⟨⟨hl,hdl⟩,⟨hsz,ho⟩,hk,hk2⟩:=hc
 obtain rfl:=Nat.eq_of_beq_eq_true hl
 have hdl:=Nat.le_of_ble_eq_true hdl
 have hsz:i.size=1:=Nat.eq_of_beq_eq_true hsz
 have ho:off % 256=0:=Nat.eq_of_beq_eq_true ho
 have hk:off / 256 < k:=by rw [Nat.blt_eq] at hk;exact hk
 have hk2:=Nat.le_of_ble_eq_true hk2
 have hcl:c < pw 256:=by cases hx with | str _ _ h=>exact h
 have eo:256 * (off / 256)=off:=by omega
 have hs1:=hs.unpack hg
 have h1:=de (P:=P) (s:=Builtin.copy_ ts ty #[D,X]) hs1 hx (size:=i.size) (k:=fun n cs=>gp i.size (.slice b off dl cap) n cs (h.put b (.cells e1 (ag t1 k) false 0))) fun n cs Cs hr hlen hl hf=>ot hs1 h0 hu hi hd hr hlen (hl w) (fun m hm=>hf m hm w rfl)
 have hset:bo (h.put b (.cells e1 (ag t1 k) false 0)) b off (az 256 c)=some ((h.put b (.cells e1 (ag t1 k) false 0)).put b (.cells e1 (ag (t1.set c (keyN (off / 256))) k) false 0)):=by
  have hp:=ll t1 c (off / 256) hcl k hk hk2
  rw [eo] at hp
  unfold bo
  rw [Heap.get_put_same]
  dsimp only
  have hle:Nat.ble (off+VM.len (az 256 c)) (VM.len (ag t1 k))=true:=by
   rw [aG,aG,bq,dg,Nat.ble_eq];omega
  have hz:Nat.ble 0 off=true:=by rw [Nat.ble_eq];exact Nat.zero_le _
  rw [hle,cond_true,mI,cond_true,hz,cond_true]
  unfold splice
  rw [aL,aL,bU,bB,aG,bq,hp]
 have hres:sliceCells (h.put b (.cells e1 (ag t1 k) false 0)) i.size (fun n cs=>gp i.size (.slice b off dl cap) n cs (h.put b (.cells e1 (ag t1 k) false 0))) (.str 256 c)=.val (.int .i64 (Int.ofNat 256)) ((h.put b (.cells e1 (ag t1 k) false 0)).put b (.cells e1 (ag (t1.set c (keyN (off / 256))) k) false 0)):=by
  rw [hsz]
  dsimp only [sliceCells]
  rw [show Nat.beq 1 1=true from rfl,cond_true]
  dsimp only [gp]
  have hmin:min 256 dl=256:=by omega
  rw [hmin,bU,List.take_of_length_le (by rw [bq];omega),hset]
 rw [hres] at h1
 refine rC hb (fun k2 hne=>Heap.get_put_other _ _ _ _ (Ne.symm hne)) (fun k2 hne=>?_) (fun ρ' w' _ hsm=>?_) h1
 ·rw [Heap.get_put_other _ _ _ _ (Ne.symm hne),Heap.get_put_other _ _ _ _ (Ne.symm hne),Heap.get_put_other _ _ _ _ (Ne.symm hne)]
 ·have h3:=hsm.repack (Heap.get_put_same _ b _) rfl
  have hxx:∀ k2,(h.put b (.pack e1 k (t1.set c (keyN (off / 256))))).get k2=(((h.put b (.cells e1 (ag t1 k) false 0)).put b (.cells e1 (ag (t1.set c (keyN (off / 256))) k) false 0)).put b (.pack e1 k (t1.set c (keyN (off / 256))))).get k2:=fun k2=>by
   by_cases e:b=k2
   ·subst e;rw [Heap.get_put_same,Heap.get_put_same]
   ·rw [Heap.get_put_other _ _ _ _ e,Heap.get_put_other _ _ _ _ e,Heap.get_put_other _ _ _ _ e,Heap.get_put_other _ _ _ _ e]
  exact⟨h3.os,h3.out,h3.size,h3.old,h3.sub,fun b2 L2 e2=>by rw [hxx b2];exact h3.obj b2 L2 e2,fun b1 b2 L1 L2 o1 o2 e1 e2 g1 g2=>h3.inj b1 b2 L1 L2 o1 o2 e1 e2 (by rw [←hxx];exact g1) (by rw [←hxx];exact g2)⟩
theorem Sim.retell{ρ:Rho}{h:Heap}{w:World}{b:Key}{o0 o1 o2:AObj}(hs:Sim w0 ρ ((h.put b o0).put b o1) w)(ho:∀ (L:Loc) (O:Option Obj),ObjRel w0.F ρ L O o1→ObjRel w0.F ρ L O o2)(hl:o2.live=true→o1.live=true):Sim w0 ρ (h.put b o2) w:=by
 have h3:=hs.swap (o':=o2) (Heap.get_put_same _ b _) ho hl
 have hxx:∀ k2,(h.put b o2).get k2=(((h.put b o0).put b o1).put b o2).get k2:=fun k2=>by
  by_cases e:b=k2
  ·subst e;rw [Heap.get_put_same,Heap.get_put_same]
  ·rw [Heap.get_put_other _ _ _ _ e,Heap.get_put_other _ _ _ _ e,Heap.get_put_other _ _ _ _ e,Heap.get_put_other _ _ _ _ e]
 exact⟨h3.os,h3.out,h3.size,h3.old,h3.sub,fun b2 L2 e2=>by rw [hxx b2];exact h3.obj b2 L2 e2,fun b1 b2 L1 L2 o1 o2 e1 e2 g1 g2=>h3.inj b1 b2 L1 L2 o1 o2 e1 e2 (by rw [←hxx];exact g1) (by rw [←hxx];exact g2)⟩
theorem rF{i j:Nat}:∀ {ov:List (Nat × AV)},jD j (iX i ov)=cond (Nat.beq i j) none (jD j ov)
 | []=>by cases Nat.beq i j<;>rfl
 | p::r=>by
  have ih:=rF (i:=i) (j:=j) (ov:=r)
  show jD j (cond (Nat.beq p.1 i) (iX i r) (p::iX i r))=cond (Nat.beq i j) none (cond (Nat.beq p.1 j) (some p.2) (jD j r))
  cases h1:Nat.beq p.1 i with
  | true=>
   have:=Nat.eq_of_beq_eq_true h1
   rw [cond_true,ih,this]
   cases Nat.beq i j<;>rfl
  | false=>
   show cond (Nat.beq p.1 j) (some p.2) (jD j (iX i r))=_
   rw [ih]
   cases h2:Nat.beq p.1 j with
   | false=>rfl
   | true=>
    have:=Nat.eq_of_beq_eq_true h2
    subst this
    have h3:Nat.beq i p.1=false:=by
     cases h3:Nat.beq i p.1 with
     | false=>rfl
     | true=>rw [Nat.eq_of_beq_eq_true h3,Nat.beq_refl] at h1;cases h1
    rw [h3]
    rfl
theorem io{i j:Nat}(h:Nat.beq i j=false):i≠j:=fun e=>by rw [e,Nat.beq_refl] at h;cases h
theorem E1{k:Nat}{t' t:RT Nat}{ov:List (Nat × AV)}{v:AV}{i c:Nat}(ha:Agree k ρ t' t ov)(hi:i < k)(hk:k≤32768)(hc:c < pw 256)(hv:Rel ρ v (.string (strOf 256 c))):Agree k ρ (t'.set c (keyN i)) t ((i,v)::iX i ov):=by
 intro j hj
 have ho:jD j ((i,v)::iX i ov)=cond (Nat.beq i j) (some v) (cond (Nat.beq i j) none (jD j ov)):=by
  show cond (Nat.beq i j) (some v) (jD j (iX i ov))=_
  rw [rF]
 rw [ho,dY t' c i j (by omega) (by omega) hc]
 cases hb:Nat.beq i j with
 | true=>
  have:=Nat.eq_of_beq_eq_true hb;subst this
  rw [if_pos rfl]
  exact⟨fun e=>(nomatch e),fun v' e=>by cases e;exact hv⟩
 | false=>
  rw [if_neg (io hb)]
  exact ha j hj
theorem E2{k:Nat}{t' t:RT Nat}{ov:List (Nat × AV)}{i c:Nat}(ha:Agree k ρ t' t ov)(hi:i < k)(hk:k≤32768)(hc:c < pw 256):Agree k ρ (t'.set c (keyN i)) (t.set c (keyN i)) (iX i ov):=by
 intro j hj
 rw [dY t' c i j (by omega) (by omega) hc,dY t c i j (by omega) (by omega) hc,rF]
 cases hb:Nat.beq i j with
 | true=>
  have:=Nat.eq_of_beq_eq_true hb;subst this
  rw [if_pos rfl,if_pos rfl]
  exact⟨fun _=>rfl,fun v' e=>nomatch e⟩
 | false=>
  rw [if_neg (io hb),if_neg (io hb)]
  exact ha j hj
theorem Cw{t ty e:Nat}{ts:Array Nat}{i:TypeInfo}{b:Key}{off dl c e1 k:Nat}{t' t2:RT Nat}{ov2:List (Nat × AV)}{cap:ACap}{D X:Value}{L:Loc}(hb:ρ b=some L)(h0:ts[0]?=some t)(hu:P.underlying t=some (.slice e))(hi:P.info? e=some i)(hd:Rel ρ (.slice b off dl cap) D)(hx:Rel ρ (.str 256 c) X)
  (hs1:Sim w0 ρ (h.put b (.pack e1 k t')) w) (hdl:256≤dl) (hc:(and (and (Nat.beq i.size 1) (Nat.beq (Nat.mod off 256) 0)) (and (Nat.blt (off / 256) k) (Nat.ble k 32768)))=true) (ha:Agree k ρ (t'.set c (keyN (off / 256))) t2 ov2):
  ValOk P w0 ρ h w (Builtin.copy_ ts ty #[D,X]) (.val (.int .i64 (Int.ofNat 256)) (h.put b (.packo e1 k t2 ov2))):=by
 have h1:=rE (P:=P) (ty:=ty) hs1 h0 hu hi hd hx (Heap.get_put_same h b _)
 have hp:nT b e1 k t' off dl 256 c i.size (h.put b (.pack e1 k t'))=.val (.int .i64 (Int.ofNat 256)) ((h.put b (.pack e1 k t')).put b (.pack e1 k (t'.set c (keyN (off / 256))))):=by
  unfold nT
  rw [hc,Nat.beq_refl,Nat.ble_eq_true_of_le hdl]
  rfl
 rw [hp] at h1
 exact rC hb (fun k2 hne=>Heap.get_put_other _ _ _ _ (Ne.symm hne)) (fun k2 hne=>by rw [Heap.get_put_other _ _ _ _ (Ne.symm hne),Heap.get_put_other _ _ _ _ (Ne.symm hne),Heap.get_put_other _ _ _ _ (Ne.symm hne)]) (fun ρ' w' hsub hsm=>hsm.retell (fun L O hr=>yz (ha.mono hsub) hr) (fun _=>rfl)) h1
theorem pL{d:Nat}:∀ {ds:List Nat} {vs:List AV},uh vs=true→(aQ d ds vs).plain=true→∃ c,aQ d ds vs=.str 256 c
 | [],_,_,hp=>by cases hp
 | _::_,[],_,hp=>by cases hp
 | e::ds,v::vs,h,hp=>by
  cases v with
  | str l c=>
   have h:cond (Nat.beq l 256) (uh vs) false=true:=h
   have h1:Nat.beq l 256=true:=by
    cases hb:Nat.beq l 256 with
    | true=>rfl
    | false=>rw [hb] at h;cases h
   have h2:uh vs=true:=by rw [h1] at h;exact h
   have:=Nat.eq_of_beq_eq_true h1;subst this
   show ∃ c',cond (Nat.beq d e) (AV.str 256 c) (aQ d ds vs)=.str 256 c'
   have hp:(cond (Nat.beq d e) (AV.str 256 c) (aQ d ds vs)).plain=true:=hp
   cases hb:Nat.beq d e with
   | true=>exact⟨c,rfl⟩
   | false=>rw [hb] at hp;exact pL h2 hp
  | _=>cases h
theorem yF(hs:Sim w0 ρ h w){t ty e:Nat}{ts:Array Nat}{i:TypeInfo}{b:Key}{off dl l c e1 k:Nat}{t1:RT Nat}{ov:List (Nat × AV)}{cap:ACap}{D X:Value}(h0:ts[0]?=some t)(hu:P.underlying t=some (.slice e))(hi:P.info? e=some i)(hd:Rel ρ (.slice b off dl cap) D)(hx:Rel ρ (.str l c) X)(hg:h.get b=some (.packo e1 k t1 ov)):
  ValOk P w0 ρ h w (Builtin.copy_ ts ty #[D,X]) (ug b e1 k t1 ov off dl l c i.size h):=by
 have hb:∃ L,ρ b=some L:=by cases hd with | sliceIs _ _ _ _ L hb=>exact⟨L,hb⟩ | sliceMore _ _ _ _ _ L hb _ _=>exact⟨L,hb⟩
 obtain⟨L,hb⟩:=hb
 unfold ug
 refine aa (fun hc=>?_) (fun _=>trivial)
 rw [Bool.and_eq_true,Bool.and_eq_true] at hc
 obtain⟨⟨hl,hdl⟩,hc⟩:=hc
 obtain rfl:=Nat.eq_of_beq_eq_true hl
 have hcl:c < pw 256:=by cases hx with | str _ _ h=>exact h
 obtain⟨t',ha,hs1⟩:=hs.packed hb hg
 have hcc:=hc
 simp only [Bool.and_eq_true] at hcc
 have hk:off / 256 < k:=by have:=hcc.2.1;rw [Nat.blt_eq] at this;exact this
 exact Cw hb h0 hu hi hd hx hs1 (Nat.le_of_ble_eq_true hdl) hc (E2 ha hk (Nat.le_of_ble_eq_true hcc.2.2) hcl)
theorem pO{t ty e:Nat}{ts:Array Nat}{i:TypeInfo}{b:Key}{off dl e1 k:Nat}{t1 t':RT Nat}{ov:List (Nat × AV)}{cap:ACap}{D X:Value}{sb:Key}{ds:List Nat}{vs:List AV}{L:Loc}(hb:ρ b=some L)(h0:ts[0]?=some t)(hu:P.underlying t=some (.slice e))(hi:P.info? e=some i)(hd:Rel ρ (.slice b off dl cap) D)(hx:Rel ρ (.tab sb ds vs) X)
  (ha:Agree k ρ t' t1 ov) (hs1:Sim w0 ρ (h.put b (.pack e1 k t')) w):
  ValOk P w0 ρ h w (Builtin.copy_ ts ty #[D,X]) (nU b e1 k t1 ov off dl (.tab sb ds vs) vs i.size h):=by
 unfold nU
 refine aa (fun hc=>?_) (fun _=>trivial)
 rw [Bool.and_eq_true,Bool.and_eq_true] at hc
 obtain⟨⟨hl,hdl⟩,hc⟩:=hc
 rw [af]
 have hcc:=hc
 simp only [Bool.and_eq_true] at hcc
 have hk:off / 256 < k:=by have:=hcc.2.1;rw [Nat.blt_eq] at this;exact this
 have hx0:=hx
 cases hx with
 | tab _ _ _ Ls V hLs hp hr=>
  obtain⟨c,hlk⟩:=pL hl hp
  rw [hlk] at hr
  cases hr with
  | str _ _ hcl=>exact Cw hb h0 hu hi hd (.str 256 c hcl) hs1 (Nat.le_of_ble_eq_true hdl) hc (E1 ha hk (Nat.le_of_ble_eq_true hcc.2.2) hcl hx0)
theorem yG(hs:Sim w0 ρ h w){t ty e:Nat}{ts:Array Nat}{i:TypeInfo}{d x:AV}{D X:Value}(h0:ts[0]?=some t)(hu:P.underlying t=some (.slice e))(hi:P.info? e=some i)(hd:Rel ρ d D)(hx:Rel ρ x X){r:Res}(hr:ValOk P w0 ρ h w (Builtin.copy_ ts ty #[D,X]) r):
  ValOk P w0 ρ h w (Builtin.copy_ ts ty #[D,X]) (ui i.size d x h r):=by
 unfold ui
 split
 ·rename_i b off dl cap l c
  split
  ·rename_i e1 k t1 hg
   exact rE hs h0 hu hi hd hx hg
  ·rename_i e1 k t1 ov hg
   exact yF hs h0 hu hi hd hx hg
  ·rename_i e1 n hg
   exact mJ hs h0 hu hi hd hx hg
  ·exact hr
 ·rename_i b off dl cap l
  split
  ·rename_i e1 n hg
   cases hx with | ustr _ s hs2=>
   obtain⟨c,hc,e⟩:=DU s
   rw [hs2] at hc e
   have hx2:Rel ρ (.str l c) (.string s):=by rw [e];exact .str l c hc
   exact mJ hs h0 hu hi hd hx2 hg
  ·exact hr
 ·rename_i b off dl cap s ds vs
  have hb:∃ L,ρ b=some L:=by cases hd with | sliceIs _ _ _ _ L hb=>exact⟨L,hb⟩ | sliceMore _ _ _ _ _ L hb _ _=>exact⟨L,hb⟩
  obtain⟨L,hb⟩:=hb
  split
  ·rename_i e1 k t1 hg
   refine pO hb h0 hu hi hd hx (t':=t1) (fun i hi=>⟨fun _=>rfl,fun v e=>by cases e⟩) ?_
   exact hs.swapAt hb hg (fun hr=>hr) (fun _=>rfl)
  ·rename_i e1 k t1 ov hg
   obtain⟨t',ha,hs1⟩:=hs.packed hb hg
   exact pO hb h0 hu hi hd hx ha hs1
  ·exact hr
 ·exact hr
theorem EY(_hP:TypesOk P)(hs:Sim w0 ρ h w){t ty:Nat}{ts:Array Nat}{d x:AV}{D X:Value}(h0:ts[0]?=some t)(hd:Rel ρ d D)(hx:Rel ρ x X):ValOk P w0 ρ h w (Builtin.copy_ ts ty #[D,X]) (Gn P t d x h):=by
 unfold Gn
 cases hu:P.underlying t with
 | none=>exact trivial
 | some ds=>
  cases ds with
  | slice e=>
   dsimp only
   refine aa (fun hp=>?_) (fun _=>trivial)
   obtain⟨i,hi⟩:=cy hp
   rw [bj hi]
   exact yG hs h0 hu hi hd hx (de hs hx fun n cs Cs hr hlen hl hf=>ot hs h0 hu hi hd hr hlen (hl w) (fun m hm=>hf m hm w rfl))
  | _=>exact trivial
theorem oB{ts:Array Nat}{t t1 ty e n:Nat}{k kx:IntKind}{i:TypeInfo}{Z:Value}(h0:ts[0]?=some t)(h1:ts[1]?=some t1)(hu:P.underlying t=some (.slice e))(hi:P.info? e=some i)
  (hZ:i.zero=some Z) (ht1:P.underlying t1=some (.int k)) (hn:1≤n) (hpos:0 < i.size) (hb1:n * i.bytes≤1000000000) (hb2:n≤1000000000):
  (Builtin.append_ ts ty #[.slice none 0 0,.int kx (Int.ofNat n)]).run P w=.ok (.slice (some ⟨w.heap.size,0,none⟩) n (grownCap w n 0 e)) (w.drew.alloc (.cells ((Builtin.zeroCells Z.cells n).toList++(Builtin.zeroCells Z.cells (grownCap w n 0 e - n)).toList).toArray e)):=by
 have hle:¬ n≤0:=by omega
 have hbytes:i.bytes≤1000000000:=by
  have:1 * i.bytes≤n * i.bytes:=Nat.mul_le_mul_right _ hn
  omega
 have hcap:¬ Builtin.nextslicecap n 0 * i.bytes > 2 ^ 48:=by
  have h1:=Nat.mul_le_mul_right i.bytes (rz n 0 (by omega))
  have h2:(2 * n+192) * i.bytes=2 * (n * i.bytes)+192 * i.bytes:=by rw [Nat.add_mul,Nat.mul_assoc]
  omega
 have hzr:∀ w,(zeroValue e).run P w=.ok Z w:=fun w=>by simp [zeroValue,typeInfo,hi,hZ]
 have hw:IntKind.i64.wrap (n:Int)=n:=mu (by simp [fY];omega)
 have hneg:¬ ((n:Int) < 0):=by omega
 have hbig:¬ ((n:Int) * (i.bytes:Int) > 2 ^ 48):=by rw [←Int.natCast_mul];omega
 have hns:¬ (n * i.size=0):=by have:=Nat.mul_pos hn hpos;omega
 have hnot:¬ ((n:Int) > IntKind.i64.max):=by show ¬ (n:Int) > 9223372036854775807;omega
 have hfo:¬ ((Question.appendCap n 0 e).forced=true):=by simp [Question.forced]
 simp only [Builtin.append_,h0,h1]
 simp [a8 hu,ay hi,a8 ht1,eR,hw,hneg,eK hi,hcap,hzr,Builtin.firstCells]
 have q1:¬ (281474976710656 < (n:Int) * (i.bytes:Int)):=by omega
 have q2:¬ (9223372036854775807 < (n:Int)):=by omega
 have q3:¬ (n=0):=by omega
 rw [if_neg q1,if_neg q3,if_neg q2,if_neg hfo,if_neg hns]
 simp [newRow,grownCap]
 congr 2
 apply Array.ext'
 simp
theorem yH(hs:Sim w0 ρ h w){t t1 ty e:Nat}{i:TypeInfo}{ts:Array Nat}{d x:AV}{D X:Value}(h0:ts[0]?=some t)(h1:ts[1]?=some t1)(hu:P.underlying t=some (.slice e))(hi:P.info? e=some i)(hpos:0 < i.size)(hd:Rel ρ d D)(hx:Rel ρ x X):
  ValOk P w0 ρ h w (Builtin.append_ ts ty #[D,X]) (uf P e t1 d x h):=by
 unfold uf
 split
 ·rename_i k kx n z ht1 hz
  cases hd;cases hx
  unfold Dd
  refine aa (fun hcond=>?_) (fun _=>trivial)
  simp only [Bool.and_eq_true] at hcond
  obtain⟨⟨g1,g2⟩,g3,g4⟩:=hcond
  have g1:=Nat.le_of_ble_eq_true g1
  have g2:=Nat.eq_of_beq_eq_true g2
  obtain⟨Z,hrun,ho⟩:=cz (w:=w) hz
  have hr:=dw (cT ρ Z z ho) (iu ho)
  have e1:Z.cells.size=i.size:=by have:=hr.length;rw [aG,bj hi] at g2;simp at this;omega
  have hZ:i.zero=some Z:=by
   unfold zeroValue at hrun
   simp [typeInfo,hi] at hrun
   cases hz':i.zero with
   | none=>simp [hz'] at hrun
   | some Z'=>simp [hz'] at hrun;rw [hrun]
  rw [bj hi]
  have hrr:=wF hr n
  have hzc:(List.replicate n Z.cells.toList).flatten=(Builtin.zeroCells Z.cells n).toList:=by
   unfold Builtin.zeroCells
   rw [qW Z.cells n]
  rw [hzc] at hrr
  have hlen:(rep n z.cells).length=n * i.size:=by rw [←hrr.length];simp [Builtin.zeroCells,e1]
  exact mH (c:=0) (Kept.refl _ _) hs hi hZ e1 hrr hlen (fun b1 b2=>oB h0 h1 hu hi hZ ht1 g1 hpos b1 b2)
 ·exact trivial
theorem AX(hP:TypesOk P)(hs:Sim w0 ρ h w){t t1 ty:Nat}{ts:Array Nat}{d x:AV}{D X:Value}(h0:ts[0]?=some t)(h1:ts[1]?=some t1)(hd:Rel ρ d D)(hx:Rel ρ x X):ValOk P w0 ρ h w (Builtin.append_ ts ty #[D,X]) (xC P t t1 d x h):=by
 unfold xC
 cases hu:P.underlying t with
 | none=>exact trivial
 | some ds=>
  cases ds with
  | slice e=>
   dsimp only
   refine aa (fun hp=>?_) (fun _=>trivial)
   rw [Bool.and_eq_true] at hp
   obtain⟨i,hi⟩:=cy hp.1
   have hpos:0 < i.size:=by
    have:=hp.1
    unfold gU at this
    rw [bj hi] at this
    rcases Nat.eq_zero_or_pos i.size with h' | h'
    ·rw [h'] at this;simp at this
    ·exact h'
   refine aa (fun hp2=>?_) (fun _=>yH hs h0 h1 hu hi hpos hd hx)
   rw [bj hi]
   refine de hs hx fun n cs Cs hr hlen hl hf=>AU hP hs h0 h1 hu hi hpos hp.2 hp2 hd hr hlen hl (fun w' hw'=>?_)
   have:=hf n (Nat.le_refl _) w' hw'
   rw [List.take_of_length_le (by rw [hr.length,hlen];exact Nat.le_refl _)] at this
   exact this
  | _=>exact trivial
end
end Go.VM
namespace Go.VM
section
variable {P:Program} {w0:Base} {ρ:Rho} {h:Heap} {w:World}
theorem EZ{x y:AV}{A:List Value}(hr:RelL ρ [x,y] A):∃ X Y,A=[X,Y]∧Rel ρ x X∧Rel ρ y Y:=by
 cases hr with
 | cons _ X _ _ hx hr=>cases hr with
  | cons _ Y _ _ hy hr=>cases hr;exact⟨X,Y,rfl,hx,hy⟩
theorem wK{x:AV}{A:List Value}(hr:RelL ρ [x] A):∃ X,A=[X]∧Rel ρ x X:=by
 cases hr with
 | cons _ X _ _ hx hr=>cases hr;exact⟨X,rfl,hx⟩
theorem qz{args:List AV}{A:List Value}(hr:RelL ρ args A){k:AV→Res}{s:Sem Next}(hk:∀ x X,Rel ρ x X→A=[X]→NextOk P w0 ρ h w s (k x)):NextOk P w0 ρ h w s (vd args k):=by
 unfold vd
 split
 ·obtain⟨X,e,hx⟩:=wK hr;exact hk _ X hx e
 ·exact trivial
theorem qA{args:List AV}{A:List Value}(hr:RelL ρ args A){k:AV→AV→Res}{s:Sem Next}(hk:∀ x y X Y,Rel ρ x X→Rel ρ y Y→A=[X,Y]→NextOk P w0 ρ h w s (k x y)):NextOk P w0 ρ h w s (zO args k):=by
 unfold zO
 split
 ·obtain⟨X,Y,e,hx,hy⟩:=EZ hr;exact hk _ _ X Y hx hy e
 ·exact trivial
theorem gE{ts:Array Nat}{k:Nat→Res}{s:Sem Next}(hk:∀ t,ts[0]?=some t→NextOk P w0 ρ h w s (k t)):NextOk P w0 ρ h w s (iY ts.toList k):=by
 unfold iY
 split
 ·rename_i t r e;exact hk t (by rw [←Array.getElem?_toList,e];rfl)
 ·exact trivial
theorem pP(hP:TypesOk P)(hs:Sim w0 ρ h w){b:Builtin}{ts:Array Nat}{ty:Nat}{cst:Array Bool}{args:List AV}{A:List Value}(hr:RelL ρ args A):NextOk P w0 ρ h w (builtin b ts ty cst ⟨A⟩) (cN P b ts.toList args h):=by
 cases b with
 | len=>exact qz hr fun x X hx e=>gE fun t h0=>by subst e;exact ae (Hs hs h0 hx)
 | append=>
  refine qA hr fun x y X Y hx hy e=>?_
  subst e
  unfold zN
  split
  ·rename_i t t1 r e
   exact ae (AX hP hs (t:=t) (t1:=t1) (by rw [←Array.getElem?_toList,e];rfl) (by rw [←Array.getElem?_toList,e];rfl) hx hy)
  ·exact trivial
 | copy=>exact qA hr fun x y X Y hx hy e=>gE fun t h0=>by subst e;exact ae (EY hP hs h0 hx hy)
 | delete=>exact qA hr fun x y X Y hx hy e=>gE fun t h0=>by subst e;exact ae (AQ hP hs h0 hx hy)
 | recover=>exact⟨rfl,rfl⟩
 | min=>exact ae (EW hs hr)
 | max=>exact ae (EX hs hr)
 | cap=>exact qz hr fun x X hx e=>gE fun t h0=>by subst e;exact ae (Hu hs h0 hx)
 | clear=>exact qz hr fun x X hx e=>gE fun t h0=>by subst e;exact ae (E0 hs h0 hx)
 | unsafeString=>exact qA hr fun x y X Y hx hy e=>gE fun t h0=>by subst e;exact ae (yE hs h0 hx hy)
 | unsafeSliceData=>exact qz hr fun x X hx e=>by subst e;exact ae (uT hs hx)
 | _=>exact trivial
def mK(P:Program)(ρ:Rho)(T:Slots)(E:Operand→Value):Prop:=∀ x,Rel ρ (ev P T x) (E x)
theorem fK{T:Slots}{E:Operand→Value}(hE:mK P ρ T E):∀ xs:List Operand,RelL ρ (evs P T xs) (xs.map E)
 | []=>.nil
 | x::r=>.cons _ _ _ _ (hE x) (fK hE r)
theorem rG{T:Slots}{E:Operand→Value}(hE:mK P ρ T E):∀ xs:List (Nat × Operand),rR ρ (j5 P T xs) (xs.map fun p=>(p.1,E p.2))
 | []=>⟨rfl,fun i hi=>by simp [j5] at hi⟩
 | x::r=>by
  obtain⟨h1,h2⟩:=rG hE r
  refine⟨by show (j5 P T r).length+1=_;simp [h1],?_⟩
  intro i hi hi'
  cases i with
  | zero=>exact⟨rfl,hE x.2⟩
  | succ i=>exact h2 i (by have:i+1 < (j5 P T r).length+1:=hi;omega) (by simpa using hi')
theorem rH{T:Slots}{E:Operand→Value}(hE:mK P ρ T E)(x:Option Operand):uO ρ (l8 P T x) (x.map E):=by
 cases x with
 | none=>exact trivial
 | some x=>exact hE x
theorem E3{f:AV}{F:Value}{args:List AV}{A:List Value}(hf:Rel ρ f F)(hr:RelL ρ args A):NextOk P w0 ρ h w (do let d ←Deferred.ofValue F ⟨A⟩;invoke d.target d.args) (jJ f args h):=by
 cases hf with
 | func g a b A1 B1 ha hb=>
  refine⟨rfl,A1++(A++B1),by simp only [aL];exact ha.append (hr.append hb),?_⟩
  simp [Deferred.ofValue,invoke]
 | yield l L hl=>
  refine⟨rfl,L,A,hl,hr,?_⟩
  simp [Deferred.ofValue,invoke]
 | _=>exact trivial
end
end Go.VM
namespace Go.VM
section
variable {P:Program} {w0:Base} {ρ:Rho} {h:Heap} {w:World}
theorem NextOk.congr{s s':Sem Next}{r:Res}(e:s.run P w=s'.run P w)(hr:NextOk P w0 ρ h w s r):NextOk P w0 ρ h w s' r:=by
 cases r<;>dsimp only [NextOk] at hr ⊢<;>first | (rw [←e];exact hr) | exact trivial
theorem F0(hP:TypesOk P)(hs:Sim w0 ρ h w){T:Slots}{E:Operand→Value}(hE:mK P ρ T E){c:Call}{ty:TypeId}:NextOk P w0 ρ h w (do let d ←resolve E c ty;invoke d.target d.args) (IJ P c T h):=by
 obtain⟨callee,⟨args⟩,ts⟩:=c
 cases callee with
 | value f=>
  refine NextOk.congr ?_ (E3 (P:=P) (w0:=w0) (h:=h) (w:=w) (hE f) (fK hE args))
  simp [resolve]
 | invoke r n=>exact trivial
 | builtin b=>
  refine NextOk.congr ?_ (pP (w:=w) (h:=h) hP hs (b:=b) (ts:=ts) (ty:=ty) (cst:=(args.toArray).map fun | .const _=>true | _=>false) (fK hE args))
  simp [resolve,invoke]
  rfl
theorem E4{T:Slots}{E:Operand→Value}(hE:mK P ρ T E){c:Call}{ty:TypeId}:NextOk P w0 ρ h w (do pure (.defer (←resolve E c ty))) (jH P c T h):=by
 obtain⟨callee,⟨args⟩,ts⟩:=c
 cases callee with
 | value f=>
  show NextOk P w0 ρ h w _ (match ev P T f with
   | .func (.func g) first cap=>.defer ⟨.func g,cap,cat first (evs P T args)⟩ h
   | _=>.bad "defer")
  have hf:=hE f
  generalize ev P T f=fa at hf
  generalize hFe:E f=F at hf
  cases hf with
  | func g a b A1 B1 ha hb=>
   refine⟨rfl,_,.fn g b (cat a (evs P T args)) B1 (A1++args.map E) hb (by rw [aL];exact ha.append (fK hE args)),?_⟩
   simp [resolve,hFe,Deferred.ofValue]
  | _=>exact trivial
 | invoke r n=>exact trivial
 | builtin b=>exact trivial
theorem F1(hP:TypesOk P)(hs:Sim w0 ρ h w){T:Slots}{E:Operand→Value}(hE:mK P ρ T E)(o:Oper):NextOk P w0 ρ h w (execOp E o) (dT P o.op T h):=by
 obtain⟨dst,op,type,after,guard,pos⟩:=o
 cases op with
 | move x=>exact⟨ρ,w,Sub.refl _,Kept.refl _ _,hs,.inl ⟨E x,hE x,rfl⟩⟩
 | assign x=>exact⟨ρ,w,Sub.refl _,Kept.refl _ _,hs,.inl ⟨E x,hE x,rfl⟩⟩
 | pick c a b=>
  refine NextOk.congr ?_ (ae (F5 (P:=P) hs (hE c) (hE a) (hE b)))
  simp [execOp]
 | alloc e=>exact ae (Ec hs)
 | box e x=>exact ae (Hx hs (hE x))
 | build t ps=>
  refine NextOk.congr ?_ (ae (DK (t:=t) hP hs (rG hE ps.toList)))
  rw [show (ps.toList.map fun p=>(p.1,E p.2)).toArray=ps.map fun (i,x)=>(i,E x) by apply Array.ext';simp]
  rfl
 | buildSlice t n ps=>
  refine NextOk.congr ?_ (ae (qX (t:=t) (n:=n) hs (rG hE ps.toList)))
  rw [show (ps.toList.map fun p=>(p.1,E p.2)).toArray=ps.map fun (i,x)=>(i,E x) by apply Array.ext';simp]
  rfl
 | insert t m k v=>exact ic (lf hP hs (hE m) (hE k) (hE v))
 | load t a=>exact ae (yK hs (hE a))
 | store t a x=>exact ic (Eb hs (hE a) (hE x))
 | ready g=>exact trivial
 | waits g=>exact trivial
 | nilCheck x=>exact Hn hs (hE x) (o:=⟨dst,.nilCheck x,type,after,guard,pos⟩) rfl rfl
 | binOp op t x y z=>exact ae (Cq hP hs (hE x) (hE y))
 | unOp op t x=>exact ae (EN hs (hE x))
 | convert s d x=>exact ae (pK hP hs (hE x))
 | sliceToArrayPointer t x=>exact trivial
 | makeInterface t x=>exact ae (EP hs (hE x))
 | makeFunc f a b=>
  refine NextOk.congr ?_ (ae (Hp (f:=f) hs (fK hE a.toList) (fK hE b.toList)))
  rw [show (⟨a.toList.map E⟩:Array Value)=a.map E by apply Array.ext';simp,show (⟨b.toList.map E⟩:Array Value)=b.map E by apply Array.ext';simp]
  rfl
 | makeMap t r=>
  refine ae (Az hs ?_)
  cases r with
  | none=>exact trivial
  | some x=>exact hE x
 | makeChan t s=>exact trivial
 | makeSlice t l c=>exact ae (uM hP hs (hE l) (hE c))
 | slice t x lo hi mx=>exact ae (vy hP hs (hE x) (rH hE lo) (rH hE hi) (rH hE mx))
 | fieldAddr s x f=>exact ae (uU hs (hE x))
 | field s x f=>exact ae (Ee hs (hE x))
 | indexAddr t x i=>exact ae (l9 hs (hE x) (hE i))
 | index t x i=>exact ae (r8 hs (hE x) (hE i))
 | lookup t x i ok=>exact ae (rf hP hs (hE x) (hE i))
 | mapUpdate t m k v=>exact ic (lf hP hs (hE m) (hE k) (hE v))
 | mapEntry t m k=>exact trivial
 | entryStore t m k v=>exact trivial
 | range t x=>exact ae (AC hs (hE x))
 | next x s=>exact ae (EV hs (hE x))
 | entry x=>exact ae (DR hs (hE x))
 | typeAssert x t u ok=>exact ae (AA hs (hE x))
 | extract x i=>exact ae (yN hs (hE x))
 | call c=>exact F0 hP hs hE
 | go c=>exact trivial
 | defer c=>exact E4 hE
 | panic x=>exact DN (hE x)
 | send c x=>exact trivial
 | recv t c ok=>exact trivial
 | select cs b=>exact trivial
end
end Go.VM
namespace Go.VM
def Keeps(h:Heap)(r:Res):Prop:=(∃ v,r=.val v h)∨(∃ m,r=.bad m)
section
variable {P:Program} {h:Heap}
theorem Keeps.val(v:AV):Keeps h (.val v h):=.inl ⟨v,rfl⟩
theorem Keeps.bad(m:String):Keeps h (.bad m):=.inr ⟨m,rfl⟩
theorem Keeps.cond{b:Bool}{x y:Res}(hx:Keeps h x)(hy:Keeps h y):Keeps h (cond b x y):=by cases b;exact hy;exact hx
theorem Keeps.okv(x:Option AV)(m:String):Keeps h (okv x h m):=by cases x;exact .bad _;exact .val _
theorem Keeps.boolV(b:Bool):Keeps h (boolV b h):=by rw [bY];exact .val _
theorem Keeps.intV(k:IntKind)(n:Int):Keeps h (intV k n h):=by rw [wD];exact .val _
theorem Keeps.scalV(x:Option Value)(m:String):Keeps h (scalV x h m):=by
 unfold VM.scalV
 split
 ·exact .intV _ _
 ·exact .boolV _
 ·rw [af];exact .val _
 ·exact .bad _
theorem Keeps.strV(l c:Nat):Keeps h (strV l c h):=by
 unfold VM.strV;rw [af,af];exact .cond (.val _) (.bad _)
theorem Keeps.bnd{x:Option AV}{a b:Nat}{k:Nat→Res}(hk:∀ n,Keeps h (k n)):Keeps h (bnd x a b k):=by
 unfold VM.bnd;split;exact hk _;exact .bad _
theorem Keeps.force{n:Nat}{k:Nat→Res}(hk:∀ n,Keeps h (k n)):Keeps h (ak n k):=by rw [af];exact hk n
theorem Keeps.idx{x:AV}{k:Nat→Res}(hk:∀ n,Keeps h (k n)):Keeps h (idx x k):=by
 unfold VM.idx;split;exact hk _;exact .bad _
theorem Keeps.sliceCells{size:Nat}{k:Nat→List AV→Res}{v:AV}(hk:∀ n cs,Keeps h (k n cs)):Keeps h (sliceCells h size k v):=by
 unfold VM.sliceCells
 split
 ·exact hk _ _
 ·exact hk _ _
 ·split
  ·exact hk _ _
  ·exact .bad _
 ·exact .cond (hk _ _) (.bad _)
 ·exact .cond (.cond (hk _ _) (.bad _)) (.bad _)
 ·unfold nF
  split
  ·split
   ·exact .cond (hk _ _) (.bad _)
   ·exact .bad _
  ·exact .bad _
 ·exact .bad _
theorem Keeps.tabConv(l:Nat)(cs:List AV):Keeps h (tabConv l cs h):=by
 unfold VM.tabConv
 split
 ·refine .cond ?_ (.bad _)
  unfold Gd;split
  ·exact .val _
  ·exact .bad _
 ·exact .bad _
theorem Keeps.packConv{v:AV}{r:Res}(hr:Keeps h r):Keeps h (packConv v h r):=by
 unfold VM.packConv
 split
 ·split
  ·unfold dM;exact .cond (.force fun _=>.val _) (.bad _)
  ·unfold nM
   have hp:∀ (k:Nat) (t:RT Nat) (off len:Nat),Keeps h (dM k t off len h):=fun k t off len=>by unfold dM;exact .cond (.force fun _=>.val _) (.bad _)
   refine .cond (.cond ?_ (.cond (hp ..) (.bad _))) (.bad _)
   unfold IH;split
   ·exact .val _
   ·exact hp ..
  ·exact .cond (.val _) (.bad _)
  ·exact hr
 ·exact hr
theorem Be(c a b:AV):Keeps h (zP c a b h):=by unfold zP;split;exact .val _;exact .bad _
theorem yQ(t:Nat)(ps:List (Nat × AV)):Keeps h (ph P t ps h):=by
 unfold ph;split
 ·split
  ·exact .cond (.okv _ _) (.bad _)
  ·exact .cond (.okv _ _) (.bad _)
  ·exact .bad _
 ·exact .bad _
theorem rT(t:Nat)(a:AV):Keeps h (tX P t a h):=by
 unfold tX;split
 ·exact .cond (.okv _ _) (.cond (.okv _ _) (.bad _))
 ·exact .bad _
theorem Ei(v:AV):Keeps h (EC v h):=by
 unfold EC;split<;>first | exact .bad _ | exact .val _
theorem yR(op:UnOp)(v:AV):Keeps h (xUn P op v h):=by
 unfold xUn;split
 ·exact .boolV _
 ·split
  ·exact .scalV _ _
  ·exact .bad _
theorem wM(op:BinOp)(t:Nat)(k:IntKind)(a:Int)(k':IntKind)(b:Int):Keeps h (binInt P op t k a k' b h):=by
 unfold binInt
 refine .cond ?_ (.scalV _ _)
 unfold xp
 cases op<;>first | exact .boolV _ | exact .scalV _ _ | (unfold wp;cases k<;>first | exact .scalV _ _ | exact .cond (.intV _ _) (.scalV _ _))
theorem mR(k:IntKind)(b:Key):Keeps h (pg k b h):=by
 unfold pg;split
 ·exact .val _
 ·exact .bad _
theorem vE(op:BinOp)(t:Nat)(cst:Bool)(x y:AV)(hf:nD P op t=false∨∀ k m c j,x≠.red k m c j):Keeps h (xq P op t cst x y h):=by
 have hc:∀ l,Keeps h (tV op l h):=fun l=>by
  unfold tV;split
  ·exact .force fun _=>.cond (.val _) (.bad _)
  ·exact .bad _
 unfold xq
 split
 ·split
  ·exact hc _
  ·exact hc _
  ·exact .bad _
 ·split
  ·exact wM ..
  ·exact .bad _
 ·split
  ·unfold binStr;split<;>first | exact .strV _ _ | exact .boolV _ | exact .bad _
  ·exact hc _
  ·exact .bad _
 ·split
  ·exact .scalV _ _
  ·exact .bad _
 ·split
  ·rcases hf with hf | hf
   ·rw [hf];exact .bad _
   ·exact absurd rfl (hf _ _ _ _)
  ·exact .bad _
 ·split
  ·unfold qO
   split
   ·exact .cond (mR _ _) (.bad _)
   ·exact .cond (mR _ _) (.bad _)
   ·exact .bad _
  ·exact .bad _
 ·exact .bad _
 ·exact .bad _
 ·exact .bad _
 ·exact .bad _
 ·exact .bad _
 ·unfold tQ
  split
  ·refine .cond ?_ (.bad _)
   unfold okb;cases eqA P h 50 t x y;exact .bad _;exact .boolV _
  ·refine .cond ?_ (.bad _)
   unfold Jn;cases eqA P h 50 t x y;exact .bad _;exact .boolV _
  ·split
   ·exact .scalV _ _
   ·exact .bad _
theorem rU(src dst:Nat)(v:AV)(hd:∀ e,P.underlying dst≠some (.slice e)):Keeps h (fw P src dst v h):=by
 unfold fw
 split
 ·exact .scalV _ _
 ·exact .scalV _ _
 ·unfold nK
  split
  ·exact .cond (.val _) (.bad _)
  ·rename_i e hu;exact absurd hu (hd e)
  ·exact .bad _
 ·unfold nL
  split
  ·split
   ·exact .cond (.val _) (.bad _)
   ·exact .cond (.val _) (.bad _)
   ·exact .bad _
  ·exact .bad _
 ·unfold nO;split<;>first | exact .cond (.val _) (.bad _) | exact .bad _
 ·unfold kT;split<;>first | exact .cond (.val _) (.bad _) | exact .bad _
 ·exact .bad _
 ·exact .bad _
 ·unfold xx
  split
  ·exact .cond (.packConv (.sliceCells fun _ _=>.cond (.strV _ _) (.tabConv _ _))) (.bad _)
  ·exact .bad _
theorem pR(t:Nat)(v:AV)(lo hi mx:Option AV):Keeps h (m8 P t v lo hi mx h):=by
 have hIs:∀ size b off len c,Keeps h (sliceIs size b off len c lo hi mx h):=fun size b off len c=>by
  unfold sliceIs
  exact .cond (.bad _) (.bnd fun _=>.bnd fun _=>.bnd fun _=>.force fun _=>.force fun _=>.force fun _=>.val _)
 have hMore:∀ size b off len,Keeps h (sliceMore size b off len lo hi h):=fun size b off len=>by
  unfold sliceMore
  exact .bnd fun _=>.bnd fun _=>.cond (.val _) (.cond (.force fun _=>.force fun _=>.val _) (.val _))
 unfold m8
 split
 ·split
  ·exact .bnd fun _=>.bnd fun _=>.strV _ _
  ·exact .bad _
 ·split
  ·exact .bnd fun _=>.bnd fun _=>.force fun _=>.val _
  ·exact .bad _
 ·split
  ·exact .cond (.bad _) (.bnd fun _=>.bnd fun _=>.val _)
  ·exact .bad _
 ·split
  ·exact .cond (.bad _) (.bnd fun _=>.bnd fun _=>.val _)
  ·exact .bad _
 ·split
  ·split
   ·exact .cond (hIs ..) (.bad _)
   ·split
    ·exact .cond (hMore ..) (.bad _)
    ·exact .bad _
  ·exact .bad _
 ·split
  ·exact .cond (hIs ..) (.bad _)
  ·exact .bad _
 ·exact .bad _
theorem pT(t:Nat)(v i:AV):Keeps h (g7 P t v i h):=by
 have hx:∀ v,Keeps h (ub P t v i h):=fun v=>by
  unfold ub
  refine .idx fun n=>?_
  split
  ·exact .cond (.force fun _=>.val _) (.bad _)
  ·split
   ·exact .cond (.okv _ _) (.bad _)
   ·exact .bad _
  ·exact .bad _
 unfold g7
 split
 ·exact .cond (hx _) (.bad _)
 ·exact hx _
theorem iV(t:Nat)(v i:AV):Keeps h (cL P t v i h):=by
 unfold cL
 refine .idx fun n=>?_
 split
 ·refine .cond ?_ (.bad _)
  split
  ·exact .cond (.force fun _=>.val _) (.bad _)
  ·exact .bad _
 ·split
  ·exact .cond (.force fun _=>.val _) (.bad _)
  ·exact .bad _
 ·exact .bad _
theorem mS(t:Nat)(m k:AV)(cok:Bool):Keeps h (iN P t m k cok h):=by
 have hi:∀ kt et es,Keeps h (ct P kt et es k cok h):=fun kt et es=>by
  unfold ct
  split
  ·exact .val _
  ·split
   ·exact .val _
   ·exact .bad _
  ·exact .bad _
 have hl:∀ kt et es,Keeps h (gV P kt et es k cok h):=fun kt et es=>by
  unfold gV
  split
  ·exact .val _
  ·split
   ·exact .val _
   ·exact .bad _
  ·exact .bad _
 have hv:∀ kt et vs,Keeps h (jF P kt et vs k cok h):=fun kt et vs=>by
  unfold jF
  split
  ·exact .bad _
  ·split
   ·exact .cond (hi ..) (.bad _)
   ·exact .bad _
 unfold iN
 split
 ·refine .cond ?_ (.bad _)
  split
  ·exact hi ..
  ·split
   ·exact hi ..
   ·exact hl ..
   ·exact hl ..
   ·exact hv ..
   ·exact .bad _
  ·exact .bad _
 ·exact .bad _
theorem wN(v:AV)(want:Nat)(cok:Bool):Keeps h (kV P v want cok h):=by
 have hno:Keeps h (ED P want cok h):=by
  unfold ED
  refine .cond ?_ (.bad _)
  split
  ·exact .val _
  ·exact .bad _
 unfold kV
 split
 ·exact .bad _
 ·exact .bad _
 ·unfold nS
  split
  ·exact .cond (.val _) hno
  ·exact hno
  ·exact .bad _
theorem vF(t:Nat)(x:AV):Keeps h (zM P t x h):=by
 unfold zM
 repeat' split
 all_goals first | exact .val _ | exact .bad _
theorem Ej(t:Nat)(x:AV):Keeps h (Gm P t x h):=by
 unfold Gm
 refine .cond ?_ (.bad _)
 split
 ·exact .val _
 ·exact .val _
 ·exact .bad _
theorem iv(k:IntKind):∀ (r:List AV) (a:Int),Keeps h (pj k a h r)
 | [],_=>.val _
 | x::r,a=>by
  cases x with
  | int _ b=>exact .cond (iv k r b) (iv k r a)
  | _=>exact .bad _
theorem iw(k:IntKind):∀ (r:List AV) (a:Int),Keeps h (pm k a h r)
 | [],_=>.val _
 | x::r,a=>by
  cases x with
  | int _ b=>exact .cond (iw k r b) (iw k r a)
  | _=>exact .bad _
theorem rW(l:List AV):Keeps h (De l h):=by
 unfold De;split
 ·exact iv _ _ _
 ·exact .bad _
theorem rX(l:List AV):Keeps h (Df l h):=by
 unfold Df;split
 ·exact iw _ _ _
 ·exact .bad _
end
end Go.VM
namespace Go.VM
def Stay(h:Heap)(r:Res):Prop:=∀ v h',r=.val v h'→h'=h
theorem Keeps.stay{h:Heap}{r:Res}(k:Keeps h r):Stay h r:=by
 intro v h' e
 rcases k with ⟨v',rfl⟩ | ⟨m,rfl⟩
 ·cases e;rfl
 ·cases e
theorem Stay.bad{h:Heap}(m:String):Stay h (.bad m):=(Keeps.bad m).stay
theorem Stay.alts{h:Heap}(l:List (AV × Heap)):Stay h (.alts l):=fun _ _ e=>by cases e
theorem Stay.cond{h:Heap}{b:Bool}{x y:Res}(hx:Stay h x)(hy:Stay h y):Stay h (cond b x y):=by cases b;exact hy;exact hx
section
variable {P:Program} {w0:Base} {ρ:Rho} {h:Heap} {w:World}
theorem Sim.dom(hs:Sim w0 ρ h w){b:Key}{L:Loc}{ds':List Nat}(hb:ρ b=some L)(hm:L.base ∈ ds'):Sim w0 ρ (h.put b (.dom ds')) w:=by
 refine⟨hs.os,hs.out,hs.size,hs.old,hs.sub,?_,?_⟩
 ·intro k K e
  obtain⟨o,ho,hlt,hr⟩:=hs.obj k K e
  by_cases hk:b=k
  ·subst hk
   rw [hb] at e;cases e
   exact⟨_,Heap.get_put_same h b _,hlt,hm⟩
  ·exact⟨o,by rw [Heap.get_put_other h b k _ hk];exact ho,hlt,hr⟩
 ·intro b1 b2 L1 L2 o1 o2 e1 e2 g1 g2 l1 l2 hB
  have key:∀ bx ox,(h.put b (.dom ds')).get bx=some ox→ox.live=true→h.get bx=some ox:=by
   intro bx ox g l
   by_cases hx:b=bx
   ·subst hx;rw [Heap.get_put_same] at g;cases g;cases l
   ·rw [Heap.get_put_other h b bx _ hx] at g;exact g
  exact hs.inj b1 b2 L1 L2 o1 o2 e1 e2 (key _ _ g1 l1) (key _ _ g2 l2) l1 l2 hB
theorem rI{r:Res}{v:AV}(e:Di r=some v):(∃ h',r=.val v h')∧v.plain=true:=by
 cases r with
 | val x h'=>
  have e:cond x.plain (some x) none=some v:=e
  cases hp:x.plain with
  | false=>rw [hp] at e;cases e
  | true=>rw [hp] at e;cases e;exact⟨⟨h',rfl⟩,hp⟩
 | _=>cases e
theorem rJ{f:Nat→Option AV}:∀ {ds:List Nat} {rs:List AV},dt f ds=some rs→∀ d ∈ ds,f d=some (aQ d ds rs)
 | [],_,_,_,hd=>by cases hd
 | e::ds,rs,hl,d,hd=>by
  have hl:((f e).bind fun v=>(dt f ds).bind fun vs=>some (v::vs))=some rs:=hl
  cases hf:f e with
  | none=>rw [hf] at hl;cases hl
  | some v=>
   rw [hf] at hl
   cases hr:dt f ds with
   | none=>rw [hr] at hl;cases hl
   | some vs=>
    rw [hr] at hl;cases hl
    show f d=some (cond (Nat.beq d e) v (aQ d ds vs))
    cases hb:Nat.beq d e with
    | true=>have:=Nat.eq_of_beq_eq_true hb;subst this;exact hf
    | false=>
     cases hd with
     | head=>rw [Nat.beq_refl] at hb;cases hb
     | tail _ hd=>exact rJ hr d hd
theorem E5{g:List AV→Option AV}{b:Key}{vs:List AV}{ds:List Nat}{rs:List AV}(e:j3 g b vs ds=some rs)(d:Nat)(hd:d ∈ ds):g (aT b d vs)=some (aQ d ds rs):=by
 unfold j3 at e
 cases hz:cI g b ds vs with
 | none=>rw [hz] at e;exact rJ e d hd
 | some xs=>
  rw [hz] at e
  have e:some xs=some rs:=e
  injection e with e;subst e
  exact ol hz d hd
theorem pQ{f:Nat→Option AV}:∀ {ds:List Nat} {rs:List AV},dt f ds=some rs→∀ v ∈ rs,∃ d,f d=some v
 | [],_,e,_,hv=>by cases e;cases hv
 | d::ds,rs,e,v,hv=>by
  have e:((f d).bind fun v=>(dt f ds).bind fun vs=>some (v::vs))=some rs:=e
  cases hf:f d with
  | none=>rw [hf] at e;cases e
  | some x=>
   rw [hf] at e
   cases hr:dt f ds with
   | none=>rw [hr] at e;cases e
   | some xs=>
    rw [hr] at e;cases e
    cases hv with
    | head=>exact⟨d,hf⟩
    | tail _ hv=>exact pQ hr v hv
theorem rK{g:List AV→Option AV}{b:Key}:∀ {ds:List Nat} {vs rs:List AV},cI g b ds vs=some rs→∀ v ∈ rs,∃ xs,g xs=some v
 | [],_,_,e,_,hv=>by cases e;cases hv
 | d::ds,vs,rs,e,v,hv=>by
  have e:((bu b d vs).bind fun xs=>(g xs).bind fun v=>(cI g b ds (bF b vs)).bind fun l=>some (v::l))=some rs:=e
  cases h1:bu b d vs with
  | none=>rw [h1] at e;cases e
  | some xs=>
   rw [h1] at e
   cases h2:g xs with
   | none=>
    have e:((g xs).bind fun v=>(cI g b ds (bF b vs)).bind fun l=>some (v::l))=some rs:=e
    rw [h2] at e;cases e
   | some x=>
    have e:((g xs).bind fun v=>(cI g b ds (bF b vs)).bind fun l=>some (v::l))=some rs:=e
    rw [h2] at e
    have e:((cI g b ds (bF b vs)).bind fun l=>some (x::l))=some rs:=e
    cases h3:cI g b ds (bF b vs) with
    | none=>rw [h3] at e;cases e
    | some l=>
     rw [h3] at e
     have e:some (x::l)=some rs:=e
     cases e
     cases hv with
     | head=>exact⟨xs,h2⟩
     | tail _ hv=>exact rK h3 v hv
theorem AY{g:List AV→Option AV}{b:Key}{vs:List AV}{ds:List Nat}{rs:List AV}(e:j3 g b vs ds=some rs)(v:AV)(hv:v ∈ rs):∃ xs,g xs=some v:=by
 unfold j3 at e
 cases hz:cI g b ds vs with
 | none=>
  rw [hz] at e
  obtain⟨d,h⟩:=pQ (f:=fun d=>g (aT b d vs)) e v hv
  exact⟨_,h⟩
 | some xs=>
  rw [hz] at e
  have e:some xs=some rs:=e
  injection e with e;subst e
  exact rK hz v hv
theorem vC(d:Nat):∀ (ds:List Nat) (rs:List AV),aQ d ds rs=.junk∨aQ d ds rs ∈ rs
 | [],_=>.inl rfl
 | _::_,[]=>.inl rfl
 | e::ds,v::vs=>by
  show cond (Nat.beq d e) v (aQ d ds vs)=.junk∨cond (Nat.beq d e) v (aQ d ds vs) ∈ v::vs
  cases Nat.beq d e with
  | true=>exact .inr List.mem_cons_self
  | false=>exact (vC d ds vs).imp id (fun h=>List.mem_cons_of_mem _ h)
theorem ip{ρ:Rho}{l j:Nat}:∀ {ds:List Nat} {vs:List AV} {V:Value},cO l vs=true→(aQ j ds vs).plain=true→Rel ρ (aQ j ds vs) V→∃ s:ByteArray,V=.string s∧s.size=l:=by
 intro ds vs V h hp hr
 have key:∀ {vs:List AV} {ds:List Nat},cO l vs=true→(aQ j ds vs).plain=true→∃ c,aQ j ds vs=.str l c:=by
  intro vs
  induction vs with
  | nil=>intro ds _ hp;cases ds<;>cases hp
  | cons v r ih=>
   intro ds h hp
   cases ds with
   | nil=>cases hp
   | cons d ds=>
    unfold cO at h
    cases v with
    | str m c=>
     cases hm:Nat.beq l m with
     | false=>
      have h:cond (Nat.beq l m) (cO l r) false=true:=h
      rw [hm] at h;cases h
     | true=>
      have h2:cond (Nat.beq l m) (cO l r) false=true:=h
      rw [hm] at h2
      have h2:cO l r=true:=h2
      obtain rfl:=Nat.eq_of_beq_eq_true hm
      unfold aQ at hp ⊢
      cases hd:Nat.beq j d with
      | true=>exact⟨c,rfl⟩
      | false=>rw [hd] at hp;exact ih h2 hp
    | _=>cases h
 obtain⟨c,e⟩:=key h hp
 rw [e] at hr
 cases hr with
 | str _ _ hc=>exact⟨_,rfl,aI _ _⟩
theorem rM{x y:AV}(e:kY x y=true):x=y:=by
 cases x<;>cases y<;>try (cases e;done)
 ·rename_i a b;cases a<;>cases b<;>first | rfl | cases e
 ·rename_i k a k' b
  have e:and (Nat.beq (aj k) (aj k')) (bO a b)=true:=e
  simp only [Bool.and_eq_true] at e
  rw [ap e.1,(aX _ _).1 e.2]
 ·rename_i l a l' b
  have e:and (Nat.beq l l') (Nat.beq a b)=true:=e
  simp only [Bool.and_eq_true] at e
  rw [Nat.eq_of_beq_eq_true e.1,Nat.eq_of_beq_eq_true e.2]
theorem oC{v:AV}:∀ {r:List AV},iZ v r=true→∀ x ∈ r,x=v
 | [],_,_,hx=>by cases hx
 | y::r,e,x,hx=>by
  have e:cond (kY y v) (iZ v r) false=true:=e
  cases hp:kY y v with
  | false=>rw [hp] at e;cases e
  | true=>
   rw [hp] at e
   cases hx with
   | head=>exact rM hp
   | tail _ hx=>exact oC e x hx
theorem j9{d:Nat}:∀ {ds:List Nat} {rs:List AV} {p:List Nat × List Nat},dN ds rs=some p→d ∈ ds→(aQ d ds rs=.bool true∧d ∈ p.1)∨(aQ d ds rs=.bool false∧d ∈ p.2):=by
 intro ds
 induction ds with
 | nil=>intro _ _ _ hd;cases hd
 | cons e ds ih=>
  intro rs p hs hd
  cases rs with
  | nil=>cases hs
  | cons v vs=>
   cases v with
   | bool c=>
    cases c with
    | true=>
     have hs:((dN ds vs).bind fun p=>some (e::p.1,p.2))=some p:=hs
     cases hq:dN ds vs with
     | none=>rw [hq] at hs;cases hs
     | some q=>
      rw [hq] at hs;cases hs
      show (cond (Nat.beq d e) (AV.bool true) (aQ d ds vs)=_∧_)∨(cond (Nat.beq d e) (AV.bool true) (aQ d ds vs)=_∧_)
      cases hb:Nat.beq d e with
      | true=>have:=Nat.eq_of_beq_eq_true hb;subst this;exact .inl ⟨rfl,List.mem_cons_self⟩
      | false=>
       cases hd with
       | head=>rw [Nat.beq_refl] at hb;cases hb
       | tail _ hd=>exact (ih hq hd).imp (fun ⟨a,b⟩=>⟨a,List.mem_cons_of_mem _ b⟩) (fun ⟨a,b⟩=>⟨a,b⟩)
    | false=>
     have hs:((dN ds vs).bind fun p=>some (p.1,e::p.2))=some p:=hs
     cases hq:dN ds vs with
     | none=>rw [hq] at hs;cases hs
     | some q=>
      rw [hq] at hs;cases hs
      show (cond (Nat.beq d e) (AV.bool false) (aQ d ds vs)=_∧_)∨(cond (Nat.beq d e) (AV.bool false) (aQ d ds vs)=_∧_)
      cases hb:Nat.beq d e with
      | true=>have:=Nat.eq_of_beq_eq_true hb;subst this;exact .inr ⟨rfl,List.mem_cons_self⟩
      | false=>
       cases hd with
       | head=>rw [Nat.beq_refl] at hb;cases hb
       | tail _ hd=>exact (ih hq hd).imp (fun ⟨a,b⟩=>⟨a,b⟩) (fun ⟨a,b⟩=>⟨a,List.mem_cons_of_mem _ b⟩)
   | _=>cases hs
theorem AZ{ρ':Rho}{w':World}(hsub:Sub ρ ρ')(hkept:Kept ρ h ρ' h)(hs:Sim w0 ρ' h w'){b:Key}{L:Loc}{ds:List Nat}{rs:List AV}{V:Value}{s:Sem Next}(hb:ρ' b=some L)(hm:L.base ∈ ds)
  (hp:(aQ L.base ds rs).plain=true) (hr:Rel ρ' (aQ L.base ds rs) V) (e:s.run P w=.ok (.value V) w'):NextOk P w0 ρ h w s (kZ b ds rs h):=by
 have val:∀ v,Rel ρ' v V→NextOk P w0 ρ h w s (.val v h):=fun v hv=>⟨ρ',w',hsub,hkept,hs,.inl ⟨V,hv,e⟩⟩
 cases rs with
 | nil=>exact trivial
 | cons v r=>
  show NextOk P w0 ρ h w s (cond (isB v) (g8 b h (dN ds (v::r))) (.val (cond (iZ v r) v (zW v (.tab b ds (v::r)) (v::r))) h))
  cases hib:isB v with
  | false=>
   refine val _ ?_
   cases ha:iZ v r with
   | false=>
    have htab:Rel ρ' (.tab b ds (v::r)) V:=.tab b ds _ L V hb hp hr
    show Rel ρ' (zW v (.tab b ds (v::r)) (v::r)) V
    unfold zW
    split
    ·rename_i l c
     cases Nat.ble 256 l with
     | false=>exact htab
     | true=>
      cases hst:cO l (.str l c::r) with
      | false=>exact htab
      | true=>
       obtain⟨s,rfl,hs⟩:=ip hst hp hr
       exact .ustr _ s hs
    ·exact htab
   | true=>
    have:aQ L.base ds (v::r)=v:=by
     rcases vC L.base ds (v::r) with hj | hm'
     ·rw [hj] at hp;cases hp
     ·rcases List.mem_cons.1 hm' with hx | hx
      ·exact hx
      ·exact oC ha _ hx
    rw [this] at hr
    exact hr
  | true=>
   show NextOk P w0 ρ h w s (g8 b h (dN ds (v::r)))
   cases hq:dN ds (v::r) with
   | none=>exact trivial
   | some p=>
    obtain⟨t,f⟩:=p
    have alt:∀ c ds',L.base ∈ ds'→Rel ρ' (.bool c) V→∃ ρ'' V' w'',Sub ρ ρ''∧Kept ρ h ρ'' (h.put b (.dom ds'))∧Sim w0 ρ'' (h.put b (.dom ds')) w''∧Rel ρ'' (.bool c) V'∧s.run P w=.ok (.value V') w'':=
     fun c ds' hm' hv=>⟨ρ',V,w',hsub,hkept.trans (aK hb),hs.dom hb hm',hv,e⟩
    have two:NextOk P w0 ρ h w s (.alts [(.bool true,h.put b (.dom t)),(.bool false,h.put b (.dom f))]):=by
     rcases j9 hq hm with ⟨hl,hm'⟩ | ⟨hl,hm'⟩
     ·rw [hl] at hr;exact⟨_,List.mem_cons_self,alt true t hm' hr⟩
     ·rw [hl] at hr;exact⟨_,List.mem_cons_of_mem _ List.mem_cons_self,alt false f hm' hr⟩
    cases t with
    | nil=>
     refine val _ ?_
     rcases j9 hq hm with ⟨_,hm'⟩ | ⟨hl,_⟩
     ·cases hm'
     ·rw [hl] at hr;exact hr
    | cons t0 t=>
     cases f with
     | nil=>
      refine val _ ?_
      rcases j9 hq hm with ⟨hl,_⟩ | ⟨_,hm'⟩
      ·rw [hl] at hr;exact hr
      ·cases hm'
     | cons f0 f=>exact two
theorem yI(hs:Sim w0 ρ h w){f:List AV→Heap→Res}{vs:List AV}{Vs:List Value}(hv:RelL ρ vs Vs){s:Sem Next}(m:String)(hst:∀ vs,Stay h (f vs h))(hf:∀ vs,RelL ρ vs Vs→NextOk P w0 ρ h w s (f vs h)):
  NextOk P w0 ρ h w s (jM f vs h m):=by
 unfold jM
 cases hk:jA vs with
 | none=>exact trivial
 | some b=>
  obtain⟨L,hL⟩:=eS hv hk
  show NextOk P w0 ρ h w s (l0 f b vs h (b9 (h.get b)) m)
  unfold l0
  cases hl:j3 (fun vs=>Di (f vs h)) b vs (b9 (h.get b)) with
  | none=>exact trivial
  | some rs=>
   show NextOk P w0 ρ h w s (kZ b (b9 (h.get b)) rs h)
   by_cases hne:b9 (h.get b)=[]
   ·rw [hne] at hl ⊢
    cases hl
    exact trivial
   ·obtain⟨_,hm⟩:=dU hs hL hne
    obtain⟨⟨h',e⟩,hp⟩:=rI (E5 hl _ hm)
    have:=hst _ _ _ e;subst this
    have hn:=hf _ (eC hL hv)
    rw [e] at hn
    obtain⟨ρ',w',hsub,hkept,hs',hh⟩:=hn
    rcases hh with ⟨V,hr,er⟩ | ⟨hu,_⟩
    ·exact AZ hsub hkept hs' (hsub _ _ hL) hm hp hr er
    ·rw [hu] at hp;cases hp
end
end Go.VM
namespace Go.VM
section
variable {P:Program} {w0:Base} {ρ:Rho} {h:Heap} {w:World}
theorem Sim.ivl(hs:Sim w0 ρ h w){b:Key}{L:Loc}{lo hi:Nat}(hb:ρ b=some L)(hm:lo≤L.base∧L.base < hi):Sim w0 ρ (h.put b (.ivl lo hi)) w:=by
 refine⟨hs.os,hs.out,hs.size,hs.old,hs.sub,?_,?_⟩
 ·intro k K e
  obtain⟨o,ho,hlt,hr⟩:=hs.obj k K e
  by_cases hk:b=k
  ·subst hk
   rw [hb] at e;cases e
   exact⟨_,Heap.get_put_same h b _,hlt,hm⟩
  ·exact⟨o,by rw [Heap.get_put_other h b k _ hk];exact ho,hlt,hr⟩
 ·intro b1 b2 L1 L2 o1 o2 e1 e2 g1 g2 l1 l2 hB
  have key:∀ bx ox,(h.put b (.ivl lo hi)).get bx=some ox→ox.live=true→h.get bx=some ox:=by
   intro bx ox g l
   by_cases hx:b=bx
   ·subst hx;rw [Heap.get_put_same] at g;cases g;cases l
   ·rw [Heap.get_put_other h b bx _ hx] at g;exact g
  exact hs.inj b1 b2 L1 L2 o1 o2 e1 e2 (key _ _ g1 l1) (key _ _ g2 l2) l1 l2 hB
theorem mP(hs:Sim w0 ρ h w){b:Key}{L:Loc}{lo hi:Nat}(hb:ρ b=some L)(hg:h.get b=some (.ivl lo hi)):lo≤L.base∧L.base < hi:=by
 obtain⟨o,ho,_,hr⟩:=hs.obj b L hb
 rw [hg] at ho;injection ho with ho;subst ho
 exact hr
theorem vD(n:Int):ur n=true ↔ -4611686018427387904 < n∧n < 4611686018427387904:=by
 unfold ur;rw [Bool.and_eq_true,jU,jU]
theorem Bc{n:Int}(h1:-4611686018427387904 < n)(h2:n < 4611686018427387904):IntKind.i64.wrap n=n:=by
 simp [IntKind.wrap,IntKind.bits,IntKind.signed];omega
theorem qC(hs:Sim w0 ρ h w){b:Key}{L:Loc}{lo hi:Nat}{off:Int}{s:Sem Value}(hb:ρ b=some L)(hg:h.get b=some (.ivl lo hi))
  (e:IntKind.i64.wrap (Int.ofNat L.base+off)=Int.ofNat L.base+off→s.run P w=.ok (.int .i64 (Int.ofNat L.base+off)) w):ValOk P w0 ρ h w s (xJ .i64 b off lo hi h):=by
 unfold xJ
 refine aa (fun hc=>?_) (fun _=>trivial)
 rw [Bool.and_eq_true,vD,vD] at hc
 obtain⟨⟨a1,a2⟩,a3,a4⟩:=hc
 have ⟨m1,m2⟩:=mP hs hb hg
 have e1:Int.ofNat lo=(lo:Int):=rfl
 have e2:Int.ofNat hi=(hi:Int):=rfl
 have e3:Int.ofNat L.base=(L.base:Int):=rfl
 rw [jY]
 exact au hs (.ofs .i64 b off L _ hb rfl) (e (Bc (by omega) (by omega)))
theorem mQ(hs:Sim w0 ρ h w){b:Key}{L:Loc}{lo hi:Nat}{s:Sem Value}{c:Bool}(hb:ρ b=some L)(hm:lo≤L.base∧L.base < hi)(e:s.run P w=.ok (.bool c) w):dv P w0 ρ h w s (.bool c) (h.put b (.ivl lo hi)):=
 ⟨ρ,.bool c,w,Sub.refl _,aK hb,hs.ivl hb hm,.bool c,e⟩
theorem F6(hs:Sim w0 ρ h w){b:Key}{L:Loc}{lo hi m:Nat}{y n:Bool}{s:Sem Value}(hb:ρ b=some L)(hg:h.get b=some (.ivl lo hi))
  (e:s.run P w=.ok (.bool (if L.base < m then y else n)) w):ValOk P w0 ρ h w s (nX y n b m lo hi h):=by
 have ⟨m1,m2⟩:=mP hs hb hg
 unfold nX
 refine aa (fun hc=>?_) (fun _=>aa (fun hc=>?_) (fun _=>?_))
 ·have:=Nat.le_of_ble_eq_true hc
  rw [if_neg (by omega)] at e
  exact au hs (.bool n) e
 ·have:=Nat.le_of_ble_eq_true hc
  rw [if_pos (by omega)] at e
  exact au hs (.bool y) e
 ·rw [af]
  by_cases hlt:L.base < m
  ·rw [if_pos hlt] at e
   exact⟨_,List.mem_cons_self,mQ hs hb ⟨m1,hlt⟩ e⟩
  ·rw [if_neg hlt] at e
   exact⟨_,List.mem_cons_of_mem _ List.mem_cons_self,mQ hs hb ⟨by omega,m2⟩ e⟩
theorem Bd{n:Bool}{b:Key}{lo hi:Nat}{r:List (AV × Heap)}{p:AV × Heap}(hp:p ∈ r):p ∈ ws n b lo hi h r:=by
 unfold ws
 cases Nat.blt lo hi with
 | true=>exact List.mem_cons_of_mem _ hp
 | false=>exact hp
theorem rS{n:Bool}{b:Key}{lo hi:Nat}{r:List (AV × Heap)}(hlt:lo < hi):(AV.bool n,h.put b (.ivl lo hi)) ∈ ws n b lo hi h r:=by
 unfold ws
 rw [show Nat.blt lo hi=true from by rw [Nat.blt_eq];exact hlt]
 exact List.mem_cons_self
theorem F7(hs:Sim w0 ρ h w){b:Key}{L:Loc}{lo hi:Nat}{d:Int}{y n:Bool}{s:Sem Value}(hb:ρ b=some L)(hg:h.get b=some (.ivl lo hi))
  (e:s.run P w=.ok (.bool (if (L.base:Int)=d then y else n)) w):ValOk P w0 ρ h w s (ut y n b d lo hi h):=by
 have ⟨m1,m2⟩:=mP hs hb hg
 unfold ut
 split
 ·rename_i m
  have hof:Int.ofNat m=(m:Int):=rfl
  rw [hof] at e
  refine aa (fun hc=>?_) (fun hc=>aa (fun hc2=>?_) (fun _=>?_))
  ·rw [Bool.or_eq_true,Nat.blt_eq] at hc
   have:hi≤m∨m < lo:=hc.symm.imp Nat.le_of_ble_eq_true id
   rw [if_neg (by omega)] at e
   exact au hs (.bool n) e
  ·have h1:=Nat.le_of_ble_eq_true hc2
   have h2:¬ (m < lo∨hi≤m):=by
    intro hx
    have:or (Nat.blt m lo) (Nat.ble hi m)=true:=by
     rw [Bool.or_eq_true,Nat.blt_eq];exact hx.imp id Nat.ble_eq_true_of_le
    rw [this] at hc;cases hc
   rw [if_pos (by omega)] at e
   exact au hs (.bool y) e
  ·rw [af,af]
   rcases Nat.lt_trichotomy L.base m with hlt | heq | hgt
   ·rw [if_neg (by omega)] at e
    exact⟨_,List.mem_cons_of_mem _ (rS (by omega)),mQ hs hb ⟨m1,hlt⟩ e⟩
   ·rw [if_pos (by omega)] at e
    exact⟨_,List.mem_cons_self,mQ hs hb ⟨by omega,by omega⟩ e⟩
   ·rw [if_neg (by omega)] at e
    exact⟨_,List.mem_cons_of_mem _ (Bd (rS (by omega))),mQ hs hb ⟨by omega,m2⟩ e⟩
 ·rename_i m
  rw [if_neg (by have:Int.negSucc m < 0:=Int.negSucc_lt_zero m;omega)] at e
  exact au hs (.bool n) e
theorem Cx(b:Nat)(d:Int):b < qy d ↔ (b:Int) < d:=by
 unfold qy
 split
 ·rename_i m;have:Int.ofNat m=(m:Int):=rfl;omega
 ·rename_i m;have:Int.negSucc m < 0:=Int.negSucc_lt_zero m;omega
theorem gI(hs:Sim w0 ρ h w){op:BinOp}{t:Nat}{b:Key}{L:Loc}{lo hi:Nat}{off c:Int}(hb:ρ b=some L)(hg:h.get b=some (.ivl lo hi)):
  ValOk P w0 ρ h w (binOp op t (.int .i64 (Int.ofNat L.base+off)) (.int .i64 c)) (mf op b off c lo hi h):=by
 have e3:Int.ofNat L.base=(L.base:Int):=rfl
 have lt:∀ (op:BinOp) (m:Int) (y n:Bool),((binOp op t (.int .i64 (Int.ofNat L.base+off)) (.int .i64 c)).run P w=.ok (.bool (if (L.base:Int) < m then y else n)) w)→ValOk P w0 ρ h w (binOp op t (.int .i64 (Int.ofNat L.base+off)) (.int .i64 c)) (nX y n b (qy m) lo hi h):=
  fun op m y n e=>F6 hs hb hg (by simp only [Cx];exact e)
 have eq:∀ (op:BinOp) (y n:Bool),((binOp op t (.int .i64 (Int.ofNat L.base+off)) (.int .i64 c)).run P w=.ok (.bool (if (L.base:Int)=c - off then y else n)) w)→ValOk P w0 ρ h w (binOp op t (.int .i64 (Int.ofNat L.base+off)) (.int .i64 c)) (ut y n b (c - off) lo hi h):=
  fun op y n e=>F7 hs hb hg e
 cases op with
 | add=>
  refine qC hs hb hg (fun hw=>?_)
  have hx:Int.ofNat L.base+(off+c)=Int.ofNat L.base+off+c:=by omega
  rw [hx] at hw ⊢;simp [binOp,Op.intArith];exact hw
 | sub=>
  refine qC hs hb hg (fun hw=>?_)
  have hx:Int.ofNat L.base+(off - c)=Int.ofNat L.base+off - c:=by omega
  rw [hx] at hw ⊢;simp [binOp,Op.intArith];exact hw
 | lss=>refine lt .lss _ true false ?_;by_cases hh:(L.base:Int) < c - off<;>simp [binOp,Op.intCmp,hh]<;>omega
 | geq=>refine lt .geq _ false true ?_;by_cases hh:(L.base:Int) < c - off<;>simp [binOp,Op.intCmp,hh]<;>omega
 | leq=>refine lt .leq _ true false ?_;by_cases hh:(L.base:Int) < c - off+1<;>simp [binOp,Op.intCmp,hh]<;>omega
 | gtr=>refine lt .gtr _ false true ?_;by_cases hh:(L.base:Int) < c - off+1<;>simp [binOp,Op.intCmp,hh]<;>omega
 | eql=>refine eq .eql true false ?_;by_cases hh:(L.base:Int)=c - off<;>simp [binOp,Op.intCmp,hh]<;>omega
 | neq=>refine eq .neq false true ?_;by_cases hh:(L.base:Int)=c - off<;>simp [binOp,Op.intCmp,hh]<;>omega
 | _=>exact trivial
theorem F8(hs:Sim w0 ρ h w){op:BinOp}{t:Nat}{k k':IntKind}{m:Bool}{c:Nat}{s:Key}{L:Loc}{n b:Int}(hs':ρ s=some L)(hr:j6 k m c L.base n):
  ValOk P w0 ρ h w (binOp op t (.int k n) (.int k' b)) (Dh op k m c s k' b h):=by
 have here0:∀ {k:IntKind} {sm:Sem Value},sm.run P w=.ok (.int k (Int.ofNat L.base)) w→ValOk P w0 ρ h w sm (.val (.ofs k s 0) h):=fun {k} {sm} e=>au hs (.ofs k s 0 L _ hs' (by simp)) e
 unfold Dh
 split
 ·refine aa (fun hc=>?_) (fun _=>trivial)
  simp only [Bool.and_eq_true] at hc
  obtain⟨⟨rfl,hk⟩,hb⟩:=hc
  have:=ap hk;subst this
  have:=(aX _ _).1 hb;subst this
  have hr:bits .and k n (Int.ofNat c)=Int.ofNat L.base:=hr
  refine here0 ?_
  rw [←hr,binOp_and,intBits_and]
  rfl
 ·refine aa (fun hc=>?_) (fun _=>trivial)
  simp only [Bool.and_eq_true] at hc
  obtain⟨⟨hm,h0⟩,hk,hk',hb⟩:=hc
  have:=ap hk;subst this
  have:=ap hk';subst this
  have:=(aX _ _).1 hb;subst this
  have hm:m=false:=by simpa using hm
  subst hm
  obtain⟨hr,hw⟩:(IntKind.u64.wrap n).tmod (Int.ofNat c)=Int.ofNat L.base∧(IntKind.u64=.u64→IntKind.u64.wrap n=n):=hr
  rw [hw rfl] at hr
  have h0:c≠0:=by intro e;subst e;cases h0
  refine here0 ?_
  rw [←hr]
  simp [binOp,Op.intDiv,h0]
 ·exact trivial
theorem F9(t:Nat):(Ieee.double.read ((t % 2) * 2 ^ 63+0x7ff0000000000000+1+(t / 2) % (2 ^ 52 - 1))).isNaN=true:=by
 have h2:t % 2 < 2:=Nat.mod_lt _ (by decide)
 have h3:(t / 2) % (2 ^ 52 - 1) < 2 ^ 52 - 1:=Nat.mod_lt _ (by decide)
 generalize t % 2=s at *
 generalize (t / 2) % (2 ^ 52 - 1)=m at *
 have e:(s * 2 ^ 63+0x7ff0000000000000+1+m) % 2 ^ 63=0x7ff0000000000000+1+m:=by omega
 unfold Ieee.Format.read
 have hs:Ieee.double.signWeight=2 ^ 63:=by decide
 have hb:Ieee.double.binade=2 ^ 52:=by decide
 have hi:Ieee.double.infRung=0x7ff0000000000000:=by decide
 rw [hs,hb,hi]
 dsimp only
 rw [e,if_neg (by omega),if_neg (by omega),if_neg (by omega)]
 rfl
theorem yO(hs:Sim w0 ρ h w){op:BinOp}{t:Nat}{x y:Operand}{a b:Nat}{r:Res}(hg:nY op a b h=some r):
  ValOk P w0 ρ h w (do eqGuard op t x y (.float .f64 a) (.float .f64 b);binOp op t (.float .f64 a) (.float .f64 b)) r:=by
 unfold nY at hg
 split at hg
 ·split at hg
  ·rename_i hd
   cases hg
   refine bz (aq (by simp) (by simp)) ?_
   refine⟨ρ,_,w.drew,Sub.refl _,Kept.refl _ _,hs.drew,.nan _ (F9 (w.tape w.drawn (.nanBits .f64 a b))),?_⟩
   have hd:FloatKind.f64.format.div a b=none:=hd
   simp [binOp,Op.floatArith,hd,choose,Sem.run,Question.forced,Question.cut]
  ·cases hg
 ·cases hg
theorem Ef(hs:Sim w0 ρ h w){op:BinOp}{t:Nat}{x y:Operand}{a b:Nat}{r:Res}(ha:(Ieee.double.read a).isNaN=true)(hg:xK op h=some r):
  ValOk P w0 ρ h w (do eqGuard op t x y (.float .f64 a) (.float .f64 b);binOp op t (.float .f64 a) (.float .f64 b)) r:=by
 have ho:FloatKind.f64.format.order a b=none:=by
  show (Ieee.double.read a).order (Ieee.double.read b)=none
  generalize Ieee.double.read a=x at *
  cases x with
  | nan=>rfl
  | _=>cases ha
 unfold xK at hg
 split at hg
 ·cases hg
  refine bz (aq (by simp) (by simp)) (au hs (.bool true) ?_)
  simp [binOp,Op.floatCmp,ho]
 ·cases hg
  refine bz (aq (by simp) (by simp)) (au hs (.bool false) ?_)
  simp [binOp,Op.floatCmp,ho]
 ·cases hg
theorem Fa(hs:Sim w0 ρ h w){lo hi m n:Nat}(h1:lo≤n)(h2:n < hi){y z:Bool}{s:Sem Value}{r:Res}(hg:nZ y z lo hi m h=some r)(e:s.run P w=.ok (.bool (if n < m then y else z)) w):ValOk P w0 ρ h w s r:=by
 unfold nZ at hg
 cases ha:Nat.ble hi m with
 | true=>
  rw [ha] at hg;cases hg
  have:=Nat.le_of_ble_eq_true ha
  rw [if_pos (by omega)] at e
  exact au hs (.bool y) e
 | false=>
  rw [ha] at hg
  cases hb:Nat.ble m lo with
  | true=>
   rw [hb] at hg;cases hg
   have:=Nat.le_of_ble_eq_true hb
   rw [if_neg (by omega)] at e
   exact au hs (.bool z) e
  | false=>rw [hb] at hg;cases hg
theorem Eg(hs:Sim w0 ρ h w){op:BinOp}{t:Nat}{x y:Operand}{lo hi n:Nat}{c:Int}{r:Res}(h1:lo≤n)(h2:n < hi)(hg:BX op lo hi c h=some r):
  ValOk P w0 ρ h w (do eqGuard op t x y (.int .i64 (Int.ofNat n)) (.int .i64 c);binOp op t (.int .i64 (Int.ofNat n)) (.int .i64 c)) r:=by
 refine bz (aq (by simp) (by simp)) ?_
 have lt:∀ (op:BinOp) (m:Int) (y z:Bool),nZ y z lo hi (qy m) h=some r→((binOp op t (.int .i64 (n:Int)) (.int .i64 c)).run P w=.ok (.bool (if (n:Int) < m then y else z)) w)→ValOk P w0 ρ h w (binOp op t (.int .i64 (n:Int)) (.int .i64 c)) r:=
  fun op m y z hg e=>Fa hs h1 h2 hg (by simp only [Cx];exact e)
 cases op with
 | lss=>refine lt .lss c true false hg ?_;by_cases hh:(n:Int) < c<;>simp [binOp,Op.intCmp,hh]<;>omega
 | geq=>refine lt .geq c false true hg ?_;by_cases hh:(n:Int) < c<;>simp [binOp,Op.intCmp,hh]<;>omega
 | leq=>refine lt .leq (c+1) true false hg ?_;by_cases hh:(n:Int) < c+1<;>simp [binOp,Op.intCmp,hh]<;>omega
 | gtr=>refine lt .gtr (c+1) false true hg ?_;by_cases hh:(n:Int) < c+1<;>simp [binOp,Op.intCmp,hh]<;>omega
 | _=>cases hg
theorem Hy(hs:Sim w0 ρ h w){op:BinOp}{t:Nat}{x y:Operand}{a b:AV}{A B:Value}{r:Res}(ha:Rel ρ a A)(hb:Rel ρ b B)(hg:jL op [a,b] h=some r):
  ValOk P w0 ρ h w (do eqGuard op t x y A B;binOp op t A B) r:=by
 cases a with
 | ofs k s off=>
  cases b with
  | int k' c=>
   cases hb
   cases ha with
   | ofs _ _ _ L n hL hn=>
    subst hn
    cases ho:h.get s with
    | none=>simp [jL,ho] at hg
    | some o=>
     cases o with
     | ivl lo hi=>
      simp only [jL,ho,Option.some.injEq] at hg
      subst hg
      refine bz (aq (by simp) (by simp)) (aa (fun hc=>?_) (fun _=>trivial))
      rw [Bool.and_eq_true] at hc
      have:=ap hc.1;subst this
      have:=ap hc.2;subst this
      exact gI hs hL ho
     | _=>simp [jL,ho] at hg
  | _=>cases hg
 | int k' c=>
  cases b with
  | ofs k s off=>
   cases ha
   cases hb with
   | ofs _ _ _ L n hL hn=>
    subst hn
    cases op<;>first
     | (simp [jL] at hg;done)
     | (cases ho:h.get s with
      | none=>simp [jL,ho] at hg
      | some o=>
       cases o with
       | ivl lo hi=>
        simp only [jL,ho,Option.some.injEq] at hg
        subst hg
        refine bz (aq (by simp) (by simp)) (aa (fun hc=>?_) (fun _=>trivial))
        rw [Bool.and_eq_true] at hc
        have:=ap hc.1;subst this
        have:=ap hc.2;subst this
        refine qC hs hL ho (fun hw=>?_)
        have hx:Int.ofNat L.base+(off+c)=c+(Int.ofNat L.base+off):=by omega
        rw [hx] at hw ⊢
        simp [binOp,Op.intArith]
        exact hw
       | _=>simp [jL,ho] at hg)
     | (cases ho:h.get s with
      | none=>simp [jL,ho] at hg
      | some o=>
       cases o with
       | ivl lo hi=>
        simp only [jL,ho,Option.some.injEq] at hg
        subst hg
        refine bz (aq (by simp) (by simp)) (aa (fun hc=>?_) (fun _=>trivial))
        rw [Bool.and_eq_true] at hc
        have:=ap hc.1;subst this
        have:=ap hc.2;subst this
        first
         | (rw [show binOp .lss t (.int .i64 c) (.int .i64 (Int.ofNat L.base+off))=binOp .gtr t (.int .i64 (Int.ofNat L.base+off)) (.int .i64 c) from by simp [binOp,Op.intCmp]];exact gI hs hL ho)
         | (rw [show binOp .leq t (.int .i64 c) (.int .i64 (Int.ofNat L.base+off))=binOp .geq t (.int .i64 (Int.ofNat L.base+off)) (.int .i64 c) from by simp [binOp,Op.intCmp]];exact gI hs hL ho)
         | (rw [show binOp .gtr t (.int .i64 c) (.int .i64 (Int.ofNat L.base+off))=binOp .lss t (.int .i64 (Int.ofNat L.base+off)) (.int .i64 c) from by simp [binOp,Op.intCmp]];exact gI hs hL ho)
         | (rw [show binOp .geq t (.int .i64 c) (.int .i64 (Int.ofNat L.base+off))=binOp .leq t (.int .i64 (Int.ofNat L.base+off)) (.int .i64 c) from by simp [binOp,Op.intCmp]];exact gI hs hL ho)
       | _=>simp [jL,ho] at hg)
  | _=>cases hg
 | reds k m c s=>
  cases b with
  | int k' c=>
   cases hb
   cases ha with
   | reds _ _ _ _ L n hL hn=>
    cases ho:h.get s with
    | none=>simp [jL,ho] at hg
    | some o=>
     cases o with
     | ivl lo hi=>
      simp only [jL,ho,Option.some.injEq] at hg
      subst hg
      exact bz (aq (by simp) (by simp)) (F8 hs hL hn)
     | _=>simp [jL,ho] at hg
  | _=>cases hg
 | float k a=>
  cases k with
  | f32=>cases hg
  | f64=>
   cases b with
   | float k' b=>
    cases k' with
    | f32=>cases hg
    | f64=>
     cases ha;cases hb
     exact yO hs hg
   | _=>cases hg
 | nan=>
  cases b with
  | nan=>
   cases ha with
   | nan a ha=>cases hb with
    | nan b _=>exact Ef hs ha hg
  | _=>cases hg
 | rng lo hi=>
  cases b with
  | int k' c=>
   cases k' with
   | i64=>
    cases ha with
    | rng _ _ n h1 h2=>
     cases hb
     exact Eg hs h1 h2 hg
   | _=>cases hg
  | _=>cases hg
 | ustr l=>
  cases b with
  | tab kb ds vs=>
   have hg:o5 op l vs h=some r:=hg
   cases vs with
   | nil=>cases hg
   | cons v0 r0=>
    cases v0 with
    | str m c0=>
     unfold o5 at hg
     dsimp only at hg
     cases hst:cO m (.str m c0::r0) with
     | false=>rw [hst] at hg;cases hg
     | true=>
      rw [hst] at hg
      injection hg with hg;subst hg
      cases ha with
      | ustr _ s hl=>cases hb with
       | tab _ _ _ L V hbk hp hr=>
        obtain⟨s2,rfl,hs2⟩:=ip hst hp hr
        exact bz (aq (by simp) (by simp)) (mw hs (by rw [hl,hs2]))
    | _=>cases hg
  | _=>cases hg
 | tab kb ds vs=>
  cases b with
  | ustr l=>
   have hg:o6 op l vs h=some r:=hg
   cases vs with
   | nil=>cases hg
   | cons v0 r0=>
    cases v0 with
    | str m c0=>
     unfold o6 at hg
     dsimp only at hg
     cases hst:cO m (.str m c0::r0) with
     | false=>rw [hst] at hg;cases hg
     | true=>
      rw [hst] at hg
      injection hg with hg;subst hg
      cases hb with
      | ustr _ s hl=>cases ha with
       | tab _ _ _ L V hbk hp hr=>
        obtain⟨s2,rfl,hs2⟩:=ip hst hp hr
        exact bz (aq (by simp) (by simp)) (mw hs (by rw [hl,hs2]))
    | _=>cases hg
  | _=>cases hg
 | _=>cases hg
theorem Fb(hs:Sim w0 ρ h w){src dst:Nat}{a:AV}{A:Value}{r:Res}(ha:Rel ρ a A)(hg:qn P src dst [a] h=some r):
  ValOk P w0 ρ h w (convert src dst A) r:=by
 cases a with
 | ofs k s off=>
  cases ha with
  | ofs _ _ _ L n hL hn=>
   subst hn
   have hg:(match P.underlying src,P.underlying dst with
    | some (.int _),some (.int .i64)=>(match h.get s with
     | some (.ivl lo hi)=>some (xJ .i64 s off lo hi h)
     | _=>none)
    | _,_=>none)=some r:=hg
   split at hg
   ·rename_i hu1 hu2
    split at hg
    ·rename_i lo hi ho
     cases hg
     refine qC hs hL ho (fun hw=>?_)
     simp [convert,a8 hu1,a8 hu2,Conv.intToInt]
     exact hw
    ·cases hg
   ·cases hg
 | _=>simp [qn] at hg
theorem Eh(B base n:Nat):(⟨B,base,none⟩:Addr).add n=⟨B,base+n,none⟩:=by
 unfold Addr.add;split<;>simp_all
theorem Hz(hs:Sim w0 ρ h w){t:Nat}{v i:AV}{V I:Value}(hv:Rel ρ v V)(hi:Rel ρ i I){r:Res}(hg:Gx P t [v,i] h=some r):ValOk P w0 ρ h w (Instr.indexAt t V I) r:=by
 unfold Gx at hg
 split at hg
 ·rename_i a b n heq
  cases heq
  cases hv with
  | sliceG _ _ L M c ha hb=>
   cases hi
   split at hg
   ·rename_i e lo hi hu ho
    cases hc:and (Nat.blt n lo) (Nat.beq (aU P e) 1) with
    | false=>rw [hc] at hg;cases hg
    | true=>
     rw [hc] at hg
     have hg:some (Res.val (.ptr a n) h)=some r:=hg
     injection hg with hg;subst hg
     rw [Bool.and_eq_true] at hc
     have hlt:=cb hc.1
     have hsz:=Nat.eq_of_beq_eq_true hc.2
     have ⟨m1,_⟩:=mP hs hb ho
     cases hi:P.info? e with
     | none=>simp [aU,hi] at hsz
     | some i=>
      have h1:i.size=1:=by rw [←bj hi];exact hsz
      refine au hs (Rel.ptr a n L ha) ?_
      have hn:(n:Int) < (M.base:Int):=by omega
      (simp [Instr.indexAt,asIntOf,a8 hu,ay hi,h1,Eh];intro hge;omega)
   ·cases hg
 ·cases hg
theorem HA(hs:Sim w0 ρ h w){ts:Array Nat}{ty:Nat}{cst:Array Bool}{vs:List AV}{A:List Value}(hr:RelL ρ vs A){r:Res}(hg:Gu P ts.toList vs h=some r):NextOk P w0 ρ h w (builtin .len ts ty cst ⟨A⟩) r:=by
 unfold Gu at hg
 split at hg
 ·rename_i t _ a b hts
  obtain⟨X,rfl,hx⟩:=wK hr
  have ht:ts[0]?=some t:=by rw [←Array.getElem?_toList,hts];rfl
  cases hx with
  | sliceG _ _ L M c ha hb=>
   split at hg
   ·rename_i hu _
    cases hg
    refine ae (s:=Builtin.len_ ts ty #[.slice (some ⟨L.B,L.base,none⟩) M.base c]) (au hs (.ofs .i64 b 0 M (Int.ofNat M.base) hb (by simp)) ?_)
    simp [Builtin.len_,ht,a8 hu,goInt]
   ·cases hg
 ·rename_i t _ b hts
  obtain⟨X,rfl,hx⟩:=wK hr
  have ht:ts[0]?=some t:=by rw [←Array.getElem?_toList,hts];rfl
  cases hx with
  | map _ L hb=>
   split at hg
   ·rename_i kt et m l n hu ho
    cases hg
    obtain⟨_,_,E,clock,hO,hsz,_⟩:=gJ hs hb ho
    rw [af]
    refine ae (s:=Builtin.len_ ts ty #[.map (some L.B)]) (au hs (.rng 0 (n+1) E.size (by omega) (by omega)) ?_)
    simp [Builtin.len_,ht,a8 hu,ai hO (by simp),goInt]
   ·cases hg
 ·cases hg
theorem Fc(hs:Sim w0 ρ h w){t:Nat}{a:AV}{A:Value}(ha:Rel ρ a A){r:Res}(hg:zU P t [a] h=some r):ValOk P w0 ρ h w (Instr.loadAt t A) r:=by
 unfold zU at hg
 split at hg
 ·rename_i k off heq
  cases heq
  cases ha with
  | ptr _ _ L hk=>
   split at hg
   ·rename_i v b ho
    split at hg
    ·rename_i lo hi hb
     cases hc:and (Nat.blt off lo) (and (known P t) (not (bQ P t))) with
     | false=>rw [hc] at hg;cases hg
     | true=>
      rw [hc] at hg;cases hg
      simp only [Bool.and_eq_true,Nat.blt_eq,Bool.not_eq_true'] at hc
      obtain⟨hlt,hkn,hag⟩:=hc
      obtain⟨o,ho',_,hr⟩:=hs.obj k L hk
      rw [ho] at ho';cases ho'
      obtain⟨C,q,e,Lb,hO,_,hLb,hall⟩:=hr
      have hm:=mP hs hLb hb
      obtain⟨V,hV,hrel⟩:=hall off (by omega)
      refine au hs hrel ?_
      have hcell:w.cell? ⟨L.B,L.base+off,none⟩=some V:=by simp [World.cell?,hO,hV]
      have hl:(loadVar t ⟨L.B,L.base+off,none⟩).run P w=.ok V w:=by
       unfold loadVar
       simp [eT hkn,hag,hcell]
      simp [Instr.loadAt,Instr.sureAddr,hl]
    ·cases hg
   ·rename_i e n c ho
    cases hc:and (Nat.blt off n) (and (known P t) (not (bQ P t))) with
    | false=>rw [hc] at hg;cases hg
    | true=>
     rw [hc] at hg;cases hg
     simp only [Bool.and_eq_true,Nat.blt_eq,Bool.not_eq_true'] at hc
     obtain⟨hlt,hkn,hag⟩:=hc
     obtain⟨o,ho',_,hr⟩:=hs.obj k L hk
     rw [ho] at ho';cases ho'
     obtain⟨_,C,q,hO,_,_,hcr,_⟩:=hr
     have hr2:=hcr.2
     obtain⟨V,hV,hrel⟩:=RelL.get? off hr2 (dX n c off hlt)
     have hV:C[L.base+off]?=some V:=by
      rw [List.getElem?_take,if_pos (by rw [ce];exact hlt),List.getElem?_drop,Array.getElem?_toList] at hV
      exact hV
     have hcell:w.cell? ⟨L.B,L.base+off,none⟩=some V:=by simp [World.cell?,hO,hV]
     have hl:(loadVar t ⟨L.B,L.base+off,none⟩).run P w=.ok V w:=by
      unfold loadVar
      simp [eT hkn,hag,hcell]
     rw [bY]
     exact au hs hrel (by simp [Instr.loadAt,Instr.sureAddr,hl])
   ·cases hg
 ·cases hg
theorem yP{l:Nat}{cok:Bool}{z:AV}{s:Sem Value}(hv:dv P w0 ρ h w s (cond cok (.tup [.ustr l,.bool true]) (.ustr l)) h):ValOk P w0 ρ h w s (EE l cok z h):=⟨_,List.mem_cons_self,hv⟩
theorem Cy{l:Nat}{cok:Bool}{z:AV}{s:Sem Value}(hv:dv P w0 ρ h w s (cond cok (.tup [z,.bool false]) z) h):ValOk P w0 ρ h w s (EE l cok z h):=⟨_,List.mem_cons_of_mem _ List.mem_cons_self,hv⟩
theorem Fd(hP:TypesOk P)(hs:Sim w0 ρ h w){t:Nat}{m k:AV}{M K:Value}{cok:Bool}(hm:Rel ρ m M)(hk:Rel ρ k K){r:Res}(hg:zT P t cok [m,k] h=some r):ValOk P w0 ρ h w (Instr.lookup t M K cok) r:=by
 unfold zT at hg
 split at hg
 ·rename_i b a heq
  cases heq
  split at hg
  ·rename_i kt et um l n hu ho
   split at hg
   ·rename_i z hz
    cases hi:intT P kt with
    | false=>rw [hi] at hg;cases hg
    | true=>
     rw [hi] at hg;cases hg
     cases hm with
     | map _ L hb=>
      obtain⟨_,_,E,clock,hO,_,ks,hd,hin,hE⟩:=gJ hs hb ho
      have hkt:=Fe hi
      have hE:ERel ρ (ks.map (lN um l)) E.toList:=hE
      have hyes:∀ i V,(Instr.findKey kt K E.toList).run P w=.ok (some (i,V)) w→(Instr.lookup t (.map (some L.B)) K cok).run P w=.ok (if cok then .tuple #[V,.bool true] else V) w:=by
       intro i V hr
       simp only [Instr.lookup,Sem.run_bind,a8 hu,Result.andThen_ok,ai hO (by simp),Sem.run_pure,aA hkt,hr]
      have hno:∀ Z,(Instr.findKey kt K E.toList).run P w=.ok none w→(zeroValue et).run P w=.ok Z w→(Instr.lookup t (.map (some L.B)) K cok).run P w=.ok (if cok then .tuple #[Z,.bool false] else Z) w:=by
       intro Z hr hz
       simp only [Instr.lookup,Sem.run_bind,a8 hu,Result.andThen_ok,ai hO (by simp),Sem.run_pure,aA hkt,hr,hz]
      by_cases ha:a ∈ ks.map (·.1)
      ·obtain⟨k1,c,k2,rfl,h1,_⟩:=vJ ha hd
       have hv:=jZ (r:=some (yC um l a)) (cok:=cok) hs hP hkt hk hE (Ff hi h1) (by simp [lN]) hyes hno
       have hv:dv P w0 ρ h w (Instr.lookup t (.map (some L.B)) K cok) (cond cok (.tup [yC um l a,.bool true]) (yC um l a)) h:=hv
       cases um with
       | none=>exact yP hv
       | some p=>
        show ValOk P w0 ρ h w _ (cond (bO a p.1) (.val (cond cok (.tup [p.2,.bool true]) p.2) h) (EE l cok z h))
        by_cases hp:a=p.1
        ·have hu:yC (some p) l a=p.2:=if_pos hp
         rw [hu] at hv
         rw [(aX _ _).2 hp]
         exact hv
        ·have hu:yC (some p) l a=.ustr l:=if_neg hp
         rw [hu] at hv
         rw [mW hp]
         exact yP hv
      ·have hv:=jZ (r:=none) (cok:=cok) hs hP hkt hk hE (CA hi ha) rfl hyes hno
       dsimp only at hv
       rw [hz] at hv
       have hv:dv P w0 ρ h w (Instr.lookup t (.map (some L.B)) K cok) (cond cok (.tup [z,.bool false]) z) h:=hv
       cases um with
       | none=>exact Cy hv
       | some p=>
        show ValOk P w0 ρ h w _ (cond (bO a p.1) (.val (cond cok (.tup [p.2,.bool true]) p.2) h) (EE l cok z h))
        have hp:a≠p.1:=fun e=>ha (e▸hin p rfl)
        rw [mW hp]
        exact Cy hv
   ·cases hg
  ·cases hg
 ·cases hg
end
end Go.VM
namespace Go.VM
section
variable {P:Program} {w0:Base} {ρ:Rho} {h:Heap} {w:World}
theorem F3(op:BinOp)(t:Nat)(cst:Bool)(x y:AV):Stay h (xq P op t cst x y h):=by
 cases x with
 | red k m c j=>
  cases y with
  | int k' b=>
   show Stay h (cond (nD P op t) (tU op k m c j k' b h) (.bad "binOp red type"))
   refine .cond ?_ (.bad _)
   unfold tU
   split
   ·refine .cond (Keeps.val _).stay (.cond ?_ (.bad _))
    unfold qM
    split
    ·exact .cond (by unfold tT;first | exact .alts _ | (repeat' first | exact .alts _ | exact .bad _ | refine .cond ?_ ?_ | split)) (.bad _)
    ·exact .bad _
   ·refine .cond (Keeps.val _).stay (.cond ?_ (.bad _))
    unfold qN
    split
    ·exact .cond (by unfold tT;first | exact .alts _ | (repeat' first | exact .alts _ | exact .bad _ | refine .cond ?_ ?_ | split)) (.bad _)
    ·exact .bad _
   ·exact .bad _
  | _=>exact .bad _
 | _=>exact (vE op t cst _ y (.inr (by simp))).stay
theorem E6(hP:TypesOk P)(hs:Sim w0 ρ h w){E:Operand→Value}(o:Oper){l:Lift}(hl:cm P o.op=some l):
  (∀ vs,Stay h (l.f vs h))∧(∀ vs,RelL ρ vs (l.xs.map E)→NextOk P w0 ρ h w (execOp E o) (l.f vs h))∧(∀ vs r,RelL ρ vs (l.xs.map E)→l.g vs h=some r→NextOk P w0 ρ h w (execOp E o) r):=by
 obtain⟨dst,op,type,after,guard,pos⟩:=o
 cases op with
 | binOp op t x y z=>
  cases hl
  refine⟨fun vs=>?_,fun vs hv=>?_,fun vs r hv hg=>by
   cases hv with | cons a A _ _ ha hr=>cases hr with | cons b B _ _ hb hr=>cases hr with | nil=>exact ae (Hy hs ha hb hg)⟩
  ·show Stay h (Jq P op t _ vs h)
   unfold Jq;split
   ·exact F3 _ _ _ _ _
   ·exact .bad _
  ·cases hv with | cons a A _ _ ha hr=>cases hr with | cons b B _ _ hb hr=>cases hr with | nil=>
    exact ae (Cq hP hs ha hb)
 | unOp op t x=>
  cases hl
  refine⟨fun vs=>?_,fun vs hv=>?_,fun _ _ _ hg=>nomatch hg⟩
  ·show Stay h (lUn P op vs h)
   unfold lUn;split
   ·exact (yR ..).stay
   ·exact .bad _
  ·cases hv with | cons a A _ _ ha hr=>cases hr with | nil=>
    exact ae (EN hs ha)
 | convert s d x=>
  have hl:cond (zV P d) none (some (⟨[x],wt P s d,qn P s d⟩:Lift))=some l:=hl
  cases hsl:zV P d with
  | true=>rw [hsl] at hl;cases hl
  | false=>
   rw [hsl] at hl;cases hl
   refine⟨fun vs=>?_,fun vs hv=>?_,fun vs r hv hg=>by
    cases hv with | cons a A _ _ ha hr=>cases hr with | nil=>exact ae (Fb hs ha hg)⟩
   ·show Stay h (wt P s d vs h)
    unfold wt;split
    ·refine (rU s d _ (fun e hu=>?_)).stay
     unfold zV at hsl;rw [hu] at hsl;cases hsl
    ·exact .bad _
   ·cases hv with | cons a A _ _ ha hr=>cases hr with | nil=>
     exact ae (pK hP hs ha)
 | indexAddr t x i=>
  cases hl
  refine⟨fun vs=>?_,fun vs hv=>?_,fun vs r hv hg=>by
   cases hv with | cons a A _ _ ha hr=>cases hr with | cons b B _ _ hb hr=>cases hr with | nil=>exact ae (Hz hs ha hb hg)⟩
  ·show Stay h (Gy P t vs h)
   unfold Gy;split
   ·exact (iV ..).stay
   ·exact .bad _
  ·cases hv with | cons a A _ _ ha hr=>cases hr with | cons b B _ _ hb hr=>cases hr with | nil=>
    exact ae (l9 hs ha hb)
 | load t x=>
  cases hl
  refine⟨fun vs=>?_,fun vs hv=>?_,fun vs r hv hg=>by
   cases hv with | cons a A _ _ ha hr=>cases hr with | nil=>exact ae (Fc hs ha hg)⟩
  ·show Stay h (Gv P t vs h)
   unfold Gv;split
   ·exact (rT ..).stay
   ·exact .bad _
  ·cases hv with | cons a A _ _ ha hr=>cases hr with | nil=>
    exact ae (yK hs ha)
 | lookup t x k c=>
  cases hl
  refine⟨fun vs=>?_,fun vs hv=>?_,fun vs r hv hg=>by
   cases hv with | cons a A _ _ ha hr=>cases hr with | cons b B _ _ hb hr=>cases hr with | nil=>exact ae (Fd hP hs ha hb hg)⟩
  ·show Stay h (Gw P t c vs h)
   unfold Gw;split
   ·exact (mS ..).stay
   ·exact .bad _
  ·cases hv with | cons a A _ _ ha hr=>cases hr with | cons b B _ _ hb hr=>cases hr with | nil=>
    exact ae (rf hP hs ha hb)
 | index t x i=>
  cases hl
  refine⟨fun vs=>?_,fun vs hv=>?_,fun _ _ _ hg=>nomatch hg⟩
  ·show Stay h (BZ P t vs h)
   unfold BZ;split
   ·exact (pT ..).stay
   ·exact .bad _
  ·cases hv with | cons a A _ _ ha hr=>cases hr with | cons b B _ _ hb hr=>cases hr with | nil=>
    exact ae (r8 hs ha hb)
 | slice t x lo hi mx=>
  cases mx with
  | some _=>cases hl
  | none=>
   cases hl
   refine⟨fun vs=>?_,fun vs hv=>?_,fun _ _ _ hg=>nomatch hg⟩
   ·show Stay h (lSl P t _ _ vs h)
    unfold lSl;split
    ·exact (pR ..).stay
    ·exact .bad _
   ·cases hv with | cons a A _ _ ha hr=>cases hr with | cons b B _ _ hb hr=>cases hr with | cons c C _ _ hc hr=>cases hr with | nil=>
     have hlo:uO ρ (cond lo.isSome (some b) none) (lo.map E):=by cases lo with | none=>exact trivial | some x=>exact hb
     have hhi:uO ρ (cond hi.isSome (some c) none) (hi.map E):=by cases hi with | none=>exact trivial | some x=>exact hc
     exact ae (vy hP hs ha hlo hhi trivial)
 | call c=>
  obtain⟨callee,⟨args⟩,ts⟩:=c
  cases callee with
  | builtin b=>
   have run:∀ vs,RelL ρ vs (args.map E)→NextOk P w0 ρ h w (execOp E ⟨dst,.call ⟨.builtin b,⟨args⟩,ts⟩,type,after,guard,pos⟩) (cN P b ts.toList vs h):=by
    intro vs hv
    refine NextOk.congr ?_ (pP (w:=w) (h:=h) hP hs (b:=b) (ts:=ts) (ty:=type) (cst:=(args.toArray).map fun | .const _=>true | _=>false) hv)
    simp [execOp,resolve,invoke]
    rfl
   cases b with
   | len=>
    cases hl
    refine⟨fun vs=>?_,run,fun vs r hv hg=>by
     refine NextOk.congr ?_ (HA (ty:=type) (cst:=(args.toArray).map fun | .const _=>true | _=>false) hs hv hg)
     simp [execOp,resolve,invoke]
     rfl⟩
    show Stay h (vd vs fun x=>iY ts.toList fun t=>zM P t x h)
    unfold vd;split
    ·unfold iY;split
     ·exact (vF ..).stay
     ·exact .bad _
    ·exact .bad _
   | min=>cases hl;exact⟨fun vs=>(rW vs).stay,run,fun _ _ _ hg=>nomatch hg⟩
   | max=>cases hl;exact⟨fun vs=>(rX vs).stay,run,fun _ _ _ hg=>nomatch hg⟩
   | _=>cases hl
  | _=>cases hl
 | _=>cases hl
theorem mL(hP:TypesOk P)(hs:Sim w0 ρ h w){T:Slots}{E:Operand→Value}(hE:mK P ρ T E)(o:Oper):NextOk P w0 ρ h w (execOp E o) (gX P o.op T h):=by
 have hx:=F1 hP hs hE o
 show NextOk P w0 ρ h w (execOp E o) (g9 P (cm P o.op) T h (dT P o.op T h))
 cases hl:cm P o.op with
 | none=>exact hx
 | some l=>
  obtain⟨h1,h2,h3⟩:=E6 hP hs o hl
  show NextOk P w0 ρ h w (execOp E o) (gr P l T h (dT P o.op T h))
  unfold gr
  split
  ·rename_i m hb
   show NextOk P w0 ρ h w (execOp E o) (orG (l.g (evs P T l.xs) h) (jM l.f (evs P T l.xs) h m))
   cases hg:l.g (evs P T l.xs) h with
   | some r=>exact h3 _ r (fK hE l.xs) hg
   | none=>exact yI hs (fK hE l.xs) _ h1 h2
  ·exact hx
end
end Go.VM
