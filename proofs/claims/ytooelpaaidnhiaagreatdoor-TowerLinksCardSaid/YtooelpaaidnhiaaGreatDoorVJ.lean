/- Rows that turn memory: what a callee leaves behind, told under other names. No conditions: a library text of the proof. -/
import Derived.Test.YtooelpaaidnhiaaGreatDoorVI
import Derived.Lib.SlBy
noncomputable section
namespace Go.VM
def isK(x:Option Key)(b:Key):Bool:=match x with
 | some a=>Key.same a b
 | none=>false
def mLs(g:AV→AV→Bool):List AV→List AV→Bool
 | [],[]=>true
 | a::x,b::y=>cond (g a b) (mLs g x y) false
 | _,_=>false
def Bw:List AV→List AV→Bool
 | [],[]=>true
 | a::x,b::y=>cond (kY a b) (Bw x y) false
 | _,_=>false
def x8:List Nat→List Nat→Bool
 | [],[]=>true
 | a::x,b::y=>cond (Nat.beq a b) (x8 x y) false
 | _,_=>false
def Ev:List Nat→List Nat→Bool
 | [],_=>true
 | a::x,l=>cond (aw a l) (Ev x l) false
theorem qI:∀ {x y:List AV},Bw x y=true→x=y
 | [],[],_=>rfl
 | a::x,b::y,h=>by
  unfold Bw at h
  cases hp:kY a b with
  | true=>rw [hp] at h;rw [rM hp,qI (show Bw x y=true from h)]
  | false=>rw [hp] at h;cases h
 | [],_::_,h=>by cases h
 | _::_,[],h=>by cases h
theorem ni:∀ {x y:List Nat},x8 x y=true→x=y
 | [],[],_=>rfl
 | a::x,b::y,h=>by
  unfold x8 at h
  cases hp:Nat.beq a b with
  | true=>rw [hp] at h;rw [Nat.eq_of_beq_eq_true hp,ni (show x8 x y=true from h)]
  | false=>rw [hp] at h;cases h
 | [],_::_,h=>by cases h
 | _::_,[],h=>by cases h
theorem w8:∀ {i:Nat} {l:List Nat},aw i l=true→i ∈ l
 | _,[],h=>by cases h
 | i,j::r,h=>by
  unfold aw at h
  cases hb:Nat.beq i j with
  | true=>rw [Nat.eq_of_beq_eq_true hb];exact List.mem_cons_self ..
  | false=>rw [hb] at h;exact List.mem_cons_of_mem _ (w8 h)
theorem ti:∀ {x l:List Nat},Ev x l=true→∀ i ∈ x,i ∈ l
 | [],_,_,_,h=>by cases h
 | a::x,l,h,i,hi=>by
  unfold Ev at h
  cases hb:aw a l with
  | false=>rw [hb] at h;cases h
  | true=>
   rw [hb] at h
   cases hi with
   | head=>exact w8 hb
   | tail _ hi=>exact ti h i hi
def mV(f:Key→Option Key):Nat→AV→AV→Bool
 | 0,_,_=>false
 | d+1,x,y=>match x with
  | .junk=>true
  | .ustr l=>(match y with | .ustr m=>Nat.beq l m | .str m _=>Nat.beq l m | .tab _ _ vs=>cO l vs | _=>false)
  | .tab a ds vs=>(match y with | .tab b es us=>cond (isK (f a) b) (cond (x8 ds es) (Bw vs us) false) false | _=>false)
  | .bool a=>(match y with | .bool b=>a == b | _=>false)
  | .int k a=>(match y with | .int k' b=>cond (Nat.beq (aj k) (aj k')) (bO a b) false | _=>false)
  | .float .f64 a=>(match y with | .float .f64 b=>Nat.beq a b | _=>false)
  | .str l a=>(match y with | .str m b=>cond (Nat.beq l m) (Nat.beq a b) false | _=>false)
  | .nilPtr=>(match y with | .nilPtr=>true | _=>false)
  | .ptr a o=>(match y with | .ptr b q=>cond (isK (f a) b) (Nat.beq o q) false | _=>false)
  | .nilSlice=>(match y with | .nilSlice=>true | _=>false)
  | .emptyS=>(match y with | .emptyS=>true | _=>false)
  | .slice a o l c=>(match y with | .slice b q m e=>cond (isK (f a) b) (cond (Nat.beq o q) (cond (Nat.beq l m) (uu c e) false) false) false | _=>false)
  | .nilMap=>(match y with | .nilMap=>true | _=>false)
  | .map a=>(match y with | .map b=>isK (f a) b | _=>false)
  | .nilFunc=>(match y with | .nilFunc=>true | _=>false)
  | .nilIface=>(match y with | .nilIface=>true | _=>false)
  | .iface t a=>(match y with | .iface u b=>cond (Nat.beq t u) (mV f d a b) false | _=>false)
  | .func (.func g) a b=>(match y with | .func (.func g') x' y'=>cond (Nat.beq g g') (cond (mLs (mV f d) a x') (mLs (mV f d) b y') false) false | _=>false)
  | .agg a=>(match y with | .agg b=>mLs (mV f d) a b | _=>false)
  | .tup a=>(match y with | .tup b=>mLs (mV f d) a b | _=>false)
  | .undef=>(match y with | .undef=>true | _=>false)
  | _=>false
def mEs(f:Key→Option Key):List (AV × AV × Nat)→List (AV × AV × Nat)→Bool
 | [],[]=>true
 | a::x,b::y=>cond (mV f 20 a.1 b.1) (cond (mV f 20 a.2.1 b.2.1) (cond (Nat.beq a.2.2 b.2.2) (mEs f x y) false) false) false
 | _,_=>false
def Is(e:AV × AV)(x:Option (List (AV × AV))):Option (List (AV × AV)):=match x with
 | some l=>some (e::l)
 | none=>none
def w9(f:Key→Option Key)(k v:AV):List (AV × AV)→Option (List (AV × AV))
 | []=>none
 | e::r=>cond (cond (mV f 20 k e.1) (mV f 20 v e.2) false) (some r) (Is e (w9 f k v r))
def Bx(f:Key→Option Key):List (AV × AV)→List (AV × AV)→Bool
 | [],[]=>true
 | [],_::_=>false
 | e::r,l=>match w9 f e.1 e.2 l with
  | some l'=>Bx f r l'
  | none=>false
def p0:List (AV × AV × Nat)→List (AV × AV)
 | []=>[]
 | e::r=>(e.1,e.2.1)::p0 r
def Ew(f:Key→Option Key)(es:List (AV × AV × Nat))(c:Nat):List (List (AV × AV × Nat) × Nat)→Bool
 | []=>false
 | v::r=>cond (cond (Nat.beq v.2 c) (mEs f v.1 es) false) true (Ew f es c r)
def HR(f:Key→Option Key)(vs:List (List (AV × AV × Nat) × Nat)):List (List (AV × AV × Nat) × Nat)→Bool
 | []=>true
 | v::r=>cond (Ew f v.1 v.2 vs) (HR f vs r) false
def eqL(x y:Option Nat):Bool:=match x,y with
 | none,none=>true
 | some a,some b=>Nat.beq a b
 | _,_=>false
def Lh{α:Type}(g:α→α→Bool)(a0 a1 a2 a3 a4 a5 a6 a7:α)(y:N8 α):Bool:=N8.rec (motive:=fun _=>Bool) (fun b0 b1 b2 b3 b4 b5 b6 b7=>cond (g a0 b0) (cond (g a1 b1) (cond (g a2 b2) (cond (g a3 b3) (cond (g a4 b4) (cond (g a5 b5) (cond (g a6 b6) (g a7 b7) false) false) false) false) false) false) false) y
def eq8{α:Type}(g:α→α→Bool)(x y:N8 α):Bool:=N8.rec (motive:=fun _=>Bool) (fun a0 a1 a2 a3 a4 a5 a6 a7=>Lh g a0 a1 a2 a3 a4 a5 a6 a7 y) x
def Jg(t u:RT Nat):Bool:=eq8 (eq8 (eq8 (eq8 (eq8 eqL)))) t.t u.t
def mO(f:Key→Option Key)(o' o:AObj):Bool:=match o' with
 | .dead=>true
 | .cells e cs opn fz=>(match o with | .cells e2 cs2 opn2 fz2=>cond (Nat.beq e e2) (cond (HC opn opn2) (cond (Nat.beq fz fz2) (mLs (mV f 20) cs cs2) false) false) false | _=>false)
 | .map es c=>(match o with | .map es2 c2=>cond (Nat.beq c c2) (mEs f es es2) false | _=>false)
 | .lmap es=>(match o with
  | .lmap es2=>Bx f es es2
  | .map es2 c=>cond (gl c es2) (Bx f es (p0 es2)) false
  | .smap es2 _=>Bx f es (eI es2)
  | _=>false)
 | .mapAlt vs=>(match o with
  | .map es c=>Ew f es c vs
  | .mapAlt vs2=>HR f vs vs2
  | _=>false)
 | .bits e n c=>(match o with
  | .bits e2 n2 c2=>cond (Nat.beq e e2) (cond (Nat.beq n n2) (Nat.beq c c2) false) false
  | _=>false)
 | .bytes e n=>(match o with
  | .bytes e2 n2=>cond (Nat.beq e e2) (Nat.beq n n2) false
  | .pack e2 k _=>cond (Nat.beq e e2) (Nat.beq n (256 * k)) false
  | _=>false)
 | .pack e k t=>(match o with | .pack e2 k2 t2=>cond (Nat.beq e e2) (cond (Nat.beq k k2) (Jg t t2) false) false | _=>false)
 | .dom ds=>(match o with | .dom es=>Ev es ds | _=>false)
 | _=>false
theorem Jh{x y:Option Nat}(h:eqL x y=true):x=y:=by
 cases x<;>cases y<;>first | rfl | (rw [Nat.eq_of_beq_eq_true h]) | cases h
theorem lW{a b:Bool}(h:cond a b false=true):a=true∧b=true:=by cases a<;>cases b<;>first | exact⟨rfl,rfl⟩ | cases h
theorem tj{α:Type}{g:α→α→Bool}(hg:∀ a b,g a b=true→a=b){x y:N8 α}(h:eq8 g x y=true):x=y:=by
 obtain⟨a0,a1,a2,a3,a4,a5,a6,a7⟩:=x
 obtain⟨b0,b1,b2,b3,b4,b5,b6,b7⟩:=y
 have h:cond (g a0 b0) (cond (g a1 b1) (cond (g a2 b2) (cond (g a3 b3) (cond (g a4 b4) (cond (g a5 b5) (cond (g a6 b6) (g a7 b7) false) false) false) false) false) false) false=true:=h
 obtain⟨h0,h⟩:=lW h
 obtain⟨h1,h⟩:=lW h
 obtain⟨h2,h⟩:=lW h
 obtain⟨h3,h⟩:=lW h
 obtain⟨h4,h⟩:=lW h
 obtain⟨h5,h⟩:=lW h
 obtain⟨h6,h7⟩:=lW h
 rw [hg _ _ h0,hg _ _ h1,hg _ _ h2,hg _ _ h3,hg _ _ h4,hg _ _ h5,hg _ _ h6,hg _ _ h7]
theorem x9{t u:RT Nat}(h:Jg t u=true):t=u:=by
 obtain⟨t⟩:=t
 obtain⟨u⟩:=u
 have e:t=u:=tj (fun _ _=>tj fun _ _=>tj fun _ _=>tj fun _ _=>tj fun _ _=>Jh) h
 rw [e]
section
variable {f:Key→Option Key} {ρ ρ':Rho}
theorem dH{x:Option Key}{b:Key}(h:isK x b=true):x=some b:=by
 cases x with
 | none=>cases h
 | some a=>rw [(Key.same_iff _ _).1 (show Key.same a b=true from h)]
theorem qJ{g:AV→AV→Bool}:∀ {x y:List AV},mLs g x y=true→x.length=y.length
 | [],[],_=>rfl
 | a::x,b::y,h=>by
  unfold mLs at h
  obtain⟨_,h2⟩:=ad h
  simp [qJ h2]
 | [],_::_,h=>by cases h
 | _::_,[],h=>by cases h
theorem dI{g:AV→AV→Bool}(hg:∀ x y V,g x y=true→Rel ρ y V→Rel ρ' x V):∀ {x y:List AV} {Y:List Value},mLs g x y=true→RelL ρ y Y→RelL ρ' x Y
 | [],[],_,_,h=>by cases h;exact .nil
 | a::x,b::y,_,hm,h=>by
  unfold mLs at hm
  obtain⟨h1,h2⟩:=ad hm
  cases h with
  | cons _ V _ R hv hr=>exact .cons a V x R (hg a b V h1 hv) (dI hg h2 hr)
 | [],_::_,_,h,_=>by cases h
 | _::_,[],_,h,_=>by cases h
theorem lz(hf:∀ a b L,f a=some b→ρ b=some L→ρ' a=some L):∀ (d:Nat) (x y:AV) (V:Value),mV f d x y=true→Rel ρ y V→Rel ρ' x V
 | 0,_,_,_,h,_=>by cases h
 | d+1,x,y,V,h,hr=>by
  have ih:=lz hf d
  unfold mV at h
  split at h
  ·exact .junk V
  ·split at h
   ·obtain rfl:=Nat.eq_of_beq_eq_true h
    cases hr with | ustr l s hl=>exact .ustr _ s hl
   ·obtain rfl:=Nat.eq_of_beq_eq_true h
    cases hr with | str l c hc=>exact .ustr _ _ (aI _ _)
   ·cases hr with
    | tab b ds vs L V hb hp hr=>
     obtain⟨s,rfl,hs⟩:=ip h hp hr
     exact .ustr _ s hs
   ·cases h
  ·split at h
   ·obtain⟨h1,h⟩:=ad h
    obtain⟨h2,h3⟩:=ad h
    obtain rfl:=ni h2
    obtain rfl:=qI h3
    cases hr with | tab _ _ _ L V hb hp hr=>exact .tab _ _ _ L V (hf _ _ L (dH h1) hb) hp (hr.of_plain hp)
   ·cases h
  ·split at h
   ·obtain rfl:_=_:=by simpa using h
    cases hr;exact .bool _
   ·cases h
  ·split at h
   ·obtain⟨h1,h2⟩:=ad h
    obtain rfl:=ap h1
    obtain rfl:=(aX _ _).1 h2
    cases hr;exact .int _ _
   ·cases h
  ·split at h
   ·obtain rfl:=Nat.eq_of_beq_eq_true h
    cases hr;exact .float _ _
   ·cases h
  ·split at h
   ·obtain⟨h1,h2⟩:=ad h
    obtain rfl:=Nat.eq_of_beq_eq_true h1
    obtain rfl:=Nat.eq_of_beq_eq_true h2
    cases hr with | str _ _ hc=>exact .str _ _ hc
   ·cases h
  ·split at h
   ·cases hr;exact .nilPtr
   ·cases h
  ·split at h
   ·obtain⟨h1,h2⟩:=ad h
    obtain rfl:=Nat.eq_of_beq_eq_true h2
    cases hr with | ptr _ _ L hb=>exact .ptr _ _ L (hf _ _ L (dH h1) hb)
   ·cases h
  ·split at h
   ·cases hr;exact .nilSlice
   ·cases h
  ·split at h
   ·cases hr;exact .emptyS _ _
   ·cases h
  ·split at h
   ·obtain⟨h1,h⟩:=ad h
    obtain⟨h2,h⟩:=ad h
    obtain⟨h3,h4⟩:=ad h
    obtain rfl:=Nat.eq_of_beq_eq_true h2
    obtain rfl:=Nat.eq_of_beq_eq_true h3
    obtain rfl:=kJ h4
    cases hr with
    | sliceIs _ _ _ c L hb=>exact .sliceIs _ _ _ c L (hf _ _ L (dH h1) hb)
    | sliceMore _ _ _ c sz L hb hc ht=>exact .sliceMore _ _ _ c sz L (hf _ _ L (dH h1) hb) hc ht
   ·cases h
  ·split at h
   ·cases hr;exact .nilMap
   ·cases h
  ·split at h
   ·cases hr with | map _ L hb=>exact .map _ L (hf _ _ L (dH h) hb)
   ·cases h
  ·split at h
   ·cases hr;exact .nilFunc
   ·cases h
  ·split at h
   ·cases hr;exact .nilIface
   ·cases h
  ·split at h
   ·obtain⟨h1,h2⟩:=ad h
    obtain rfl:=Nat.eq_of_beq_eq_true h1
    cases hr with | iface t v W hv=>exact .iface _ _ W (ih _ _ W h2 hv)
   ·cases h
  ·split at h
   ·obtain⟨h1,h⟩:=ad h
    obtain⟨h2,h3⟩:=ad h
    obtain rfl:=Nat.eq_of_beq_eq_true h1
    cases hr with | func _ _ _ A B ha hb=>exact .func _ _ _ A B (dI ih h2 ha) (dI ih h3 hb)
   ·cases h
  ·split at h
   ·cases hr with | agg _ A ha=>exact .agg _ A (dI ih h ha)
   ·cases h
  ·split at h
   ·cases hr with
    | tup _ A ha=>exact .tup _ A (dI ih h ha)
   ·cases h
  ·split at h
   ·cases hr;exact .undef
   ·cases h
  ·cases h
theorem xb(hf:∀ a b L,f a=some b→ρ b=some L→ρ' a=some L):∀ {x y:List (AV × AV × Nat)} {E:List MapEntry},mEs f x y=true→ERel ρ y E→ERel ρ' x E
 | [],[],_,_,h=>by cases h;exact .nil
 | (k,v,c)::x,(k',v',c')::y,_,hm,h=>by
  unfold mEs at hm
  obtain⟨h1,hm⟩:=ad hm
  obtain⟨h2,hm⟩:=ad hm
  obtain⟨h3,hm⟩:=ad hm
  have h3:c=c':=Nat.eq_of_beq_eq_true h3
  have hm2:mEs f x y=true:=hm
  subst h3
  cases h with
  | cons _ _ K V _ _ R hk hv hr=>exact .cons k v K V c x R (lz hf 20 _ _ _ h1 hk) (lz hf 20 _ _ _ h2 hv) (xb hf hm2 hr)
 | [],_::_,_,h,_=>by cases h
 | _::_,[],_,h,_=>by cases h
inductive F2 {α β:Type} (M:α→β→Prop):List α→List β→Prop where
 | nil:F2 M [] []
 | cons {a:α} {b:β} {x:List α} {y:List β} (h:M a b) (hr:F2 M x y):F2 M (a::x) (b::y)
theorem F2.perm{α β:Type}{M:α→β→Prop}{l1 l2:List β}(hp:l1.Perm l2):∀ {es:List α},F2 M es l2→∃ es1,es1.Perm es∧F2 M es1 l1:=by
 induction hp with
 | nil=>intro es h;exact⟨es,.refl _,h⟩
 | cons x _ ih=>
  intro es h
  cases h with
  | cons hm hr=>
   obtain⟨es1,h1,h2⟩:=ih hr
   exact⟨_::es1,h1.cons _,.cons hm h2⟩
 | swap x y l=>
  intro es h
  cases h with
  | cons hm hr=>cases hr with
   | cons hm2 hr2=>exact⟨_,List.Perm.swap _ _ _,.cons hm2 (.cons hm hr2)⟩
 | trans _ _ ih1 ih2=>
  intro es h
  obtain⟨es1,h1,h2⟩:=ih2 h
  obtain⟨es2,h3,h4⟩:=ih1 h2
  exact⟨es2,h3.trans h1,h4⟩
def ME(f:Key→Option Key)(e x:AV × AV):Prop:=mV f 20 e.1 x.1=true∧mV f 20 e.2 x.2=true
theorem tk{k v:AV}:∀ {l l':List (AV × AV)},w9 f k v l=some l'→∃ e,l.Perm (e::l')∧ME f (k,v) e
 | [],_,h=>by cases h
 | e::r,l',h=>by
  unfold w9 at h
  cases hc:cond (mV f 20 k e.1) (mV f 20 v e.2) false with
  | true=>
   rw [hc] at h
   have h:some r=some l':=h
   injection h with h;subst h
   exact⟨e,.refl _,ad hc⟩
  | false=>
   rw [hc] at h
   have h:Is e (w9 f k v r)=some l':=h
   cases ht:w9 f k v r with
   | none=>rw [ht] at h;cases h
   | some l2=>
    rw [ht] at h
    have h:some (e::l2)=some l':=h
    injection h with h;subst h
    obtain⟨x,hp,hm⟩:=tk ht
    exact⟨x,(hp.cons e).trans (List.Perm.swap _ _ _),hm⟩
theorem CK:∀ {es l:List (AV × AV)},Bx f es l=true→∃ l2,l.Perm l2∧F2 (ME f) es l2
 | [],[],_=>⟨[],.refl _,.nil⟩
 | [],_::_,h=>by cases h
 | e::r,l,h=>by
  unfold Bx at h
  split at h
  ·rename_i l' ht
   obtain⟨x,hp,hm⟩:=tk ht
   obtain⟨l2,hp2,h2⟩:=CK h
   exact⟨x::l2,hp.trans (hp2.cons x),.cons hm h2⟩
  ·cases h
theorem F2.erel(hf:∀ a b L,f a=some b→ρ b=some L→ρ' a=some L):∀ {es1:List (AV × AV)} {esa:List (AV × AV × Nat)} {E:List MapEntry},F2 (ME f) es1 (esa.map strip)→ERel ρ esa E→∃ es2:List (AV × AV × Nat),es2.map strip=es1∧ERel ρ' es2 E
 | es1,[],_,h2,he=>by cases he;cases h2;exact⟨[],rfl,.nil⟩
 | es1,(k,v,c)::r,_,h2,he=>by
  cases he with
  | cons _ _ K V _ _ R hk hv hr=>
   cases h2 with
   | @cons a _ x _ hm h2=>
    obtain⟨es2,h3,h4⟩:=F2.erel hf h2 hr
    obtain⟨k',v'⟩:=a
    exact⟨(k',v',c)::es2,by rw [List.map_cons,h3];rfl,.cons k' v' K V c es2 R (lz hf 20 _ _ _ hm.1 hk) (lz hf 20 _ _ _ hm.2 hv) h4⟩
theorem tl(hf:∀ a b L,f a=some b→ρ b=some L→ρ' a=some L){es l:List (AV × AV)}{E:List MapEntry}(hm:Bx f es l=true)(h:LRel ρ l E):LRel ρ' es E:=by
 obtain⟨esa,hp,he⟩:=h
 obtain⟨l2,hp2,h2⟩:=CK hm
 obtain⟨es1,hq,h3⟩:=F2.perm (hp.trans hp2) h2
 obtain⟨es2,h4,h5⟩:=F2.erel hf h3 he
 exact⟨es2,by show (es2.map strip).Perm es;rw [h4];exact hq,h5⟩
theorem wa:∀ es:List (AV × AV × Nat),p0 es=es.map strip
 | []=>rfl
 | e::r=>by rw [List.map_cons,←wa r];rfl
theorem FN{es:List (AV × AV × Nat)}{E:List MapEntry}{c:Nat}(he:ERel ρ es E)(hb:gl c es=true):Stamp E c:=by
 obtain⟨hb1,hb2⟩:=ad (show cond (qa c (cW es)) (gu (cW es)) false=true from hb)
 refine⟨fun e hm=>?_,?_⟩
 ·have h1:e.born ∈ E.map (·.born):=List.mem_map.2 ⟨e,hm,rfl⟩
  rw [he.borns,←cg] at h1
  exact fo hb1 _ h1
 ·rw [he.borns,←cg];exact dx hb2
theorem xd{es:List (AV × AV × Nat)}{c:Nat}:∀ {vs:List (List (AV × AV × Nat) × Nat)},Ew f es c vs=true→∃ v ∈ vs,v.2=c∧mEs f v.1 es=true
 | [],h=>by cases h
 | v::r,h=>by
  unfold Ew at h
  cases hc:cond (Nat.beq v.2 c) (mEs f v.1 es) false with
  | true=>
   obtain⟨h1,h2⟩:=ad hc
   exact⟨v,List.mem_cons_self ..,Nat.eq_of_beq_eq_true h1,h2⟩
  | false=>
   rw [hc] at h
   obtain⟨x,hx,h1⟩:=xd (vs:=r) h
   exact⟨x,List.mem_cons_of_mem _ hx,h1⟩
theorem CM{vs:List (List (AV × AV × Nat) × Nat)}:∀ {vs2:List (List (AV × AV × Nat) × Nat)},HR f vs vs2=true→∀ v ∈ vs2,Ew f v.1 v.2 vs=true
 | [],_,v,hv=>by cases hv
 | x::r,h,v,hv=>by
  unfold HR at h
  obtain⟨h1,h2⟩:=ad h
  cases hv with
  | head=>exact h1
  | tail _ hv=>exact CM h2 v hv
theorem By{N:Nat→Prop}{L:Loc}{O:Option Obj}{e k:Nat}{t:RT Nat}(h:ObjRel N ρ L O (.pack e k t)):ObjRel N ρ L O (.bytes e (256 * k)):=by
 have hall:∀ k,aM (ag t k)=true:=by
  have happ:∀ a b,aM a=true→aM b=true→aM (a++b)=true:=by
   intro a b ha hb
   induction a with
   | nil=>exact hb
   | cons x r ih=>
    cases x with
    | int kk n=>
     cases kk<;>cases n<;>simp [aM] at ha
     rename_i n
     show cond (Nat.blt n 256) (aM (r++b)) false=true
     have h1:Nat.blt n 256=true:=by rw [Nat.blt_eq];exact ha.1
     rw [h1,ih ha.2];rfl
    | _=>simp [aM] at ha
  intro k
  induction k with
  | zero=>rfl
  | succ k ih=>rw [ag,aL];exact happ _ _ ih (gi _ _)
 exact ru (by rw [dg]) (hall k) h
theorem K5(hf:∀ a b L,f a=some b→ρ b=some L→ρ' a=some L){N:Nat→Prop}{L:Loc}{O:Option Obj}{o' o:AObj}(hm:mO f o' o=true)(h:ObjRel N ρ L O o):ObjRel N ρ' L O o':=by
 unfold mO at hm
 split at hm
 ·exact trivial
 ·split at hm
  ·obtain⟨h1,q1⟩:=ad hm
   obtain⟨h2,q2⟩:=ad q1
   obtain⟨h3,q3⟩:=ad q2
   obtain rfl:=Nat.eq_of_beq_eq_true h1
   obtain rfl:=qE h2
   obtain rfl:=Nat.eq_of_beq_eq_true h3
   have hl:=qJ q3
   obtain⟨a,C,q,e1,e2,e3,⟨e4,e5⟩,e6,e7⟩:=h
   exact⟨a,C,q,e1,e2,e3,⟨by rw [hl];exact e4,by rw [hl];exact dI (lz hf 20) q3 e5⟩,fun x=>by rw [hl];exact e6 x,e7⟩
  ·cases hm
 ·split at hm
  ·obtain⟨h1,q1⟩:=ad hm
   obtain rfl:=Nat.eq_of_beq_eq_true h1
   obtain⟨a,E,e1,e2⟩:=h
   exact⟨a,E,e1,xb hf q1 e2⟩
  ·cases hm
 ·split at hm
  ·obtain⟨a,E,c,e1,e2,e3⟩:=h
   exact⟨a,E,c,e1,tl hf hm e2,e3⟩
  ·obtain⟨h1,hm⟩:=ad hm
   obtain⟨a,E,e1,e2⟩:=h
   refine⟨a,E,_,e1,tl hf hm ⟨_,?_,e2⟩,FN e2 h1⟩
   rw [wa]
   exact .refl _
  ·obtain⟨a,E,c,_,e1,⟨x,y,k1,k2,k3⟩,e3⟩:=h
   refine⟨a,E,c.base,e1,tl hf hm ⟨x,?_,k3⟩,e3⟩
   rw [←oK k1]
   exact k2.map _
  ·cases hm
 ·split at hm
  ·obtain⟨v,hv,h1,h2⟩:=xd hm
   obtain⟨a,E,e1,e2⟩:=h
   exact⟨a,v,hv,E,by rw [h1];exact e1,xb hf h2 e2⟩
  ·obtain⟨a,x,hx,E,e1,e2⟩:=h
   obtain⟨v,hv,h1,h2⟩:=xd (CM hm x hx)
   exact⟨a,v,hv,E,by rw [h1];exact e1,xb hf h2 e2⟩
  ·cases hm
 ·split at hm
  ·obtain⟨h1,q1⟩:=ad hm
   obtain⟨h2,h3⟩:=ad q1
   obtain rfl:=Nat.eq_of_beq_eq_true h1
   obtain rfl:=Nat.eq_of_beq_eq_true h2
   obtain rfl:=Nat.eq_of_beq_eq_true h3
   obtain⟨a,C,q,e1,f1,g1,k1,i1,j1⟩:=h
   exact⟨a,C,q,e1,f1,g1,⟨k1.1,jf k1.2⟩,i1,j1⟩
  ·cases hm
 ·split at hm
  ·obtain⟨h1,h2⟩:=ad hm
   obtain rfl:=Nat.eq_of_beq_eq_true h1
   obtain rfl:=Nat.eq_of_beq_eq_true h2
   exact h
  ·obtain⟨h1,h2⟩:=ad hm
   obtain rfl:=Nat.eq_of_beq_eq_true h1
   obtain rfl:=Nat.eq_of_beq_eq_true h2
   obtain⟨a1,a2,a3,zs,a4,a5⟩:=By h
   exact⟨a1,a2,a3,zs,a4,a5⟩
  ·cases hm
 ·split at hm
  ·obtain⟨h1,q1⟩:=ad hm
   obtain⟨h2,h3⟩:=ad q1
   obtain rfl:=Nat.eq_of_beq_eq_true h1
   obtain rfl:=Nat.eq_of_beq_eq_true h2
   obtain rfl:=x9 h3
   obtain⟨a,C,q,e1,f1,g1,k1,i1,j1⟩:=h
   exact⟨a,C,q,e1,f1,g1,⟨k1.1,di k1.2⟩,i1,j1⟩
  ·cases hm
 ·split at hm
  ·exact ti hm _ h
  ·cases hm
 ·cases hm
theorem CN{o' o:AObj}(hm:mO f o' o=true)(hl:o'.live=true):o.live=true:=by
 unfold mO at hm
 split at hm
 ·cases hl
 all_goals first
  | cases hl;done
  | (split at hm<;>first | rfl | cases hm)
  | cases hm
theorem HS{N:Nat→Prop}{L:Loc}{O:Option Obj}{o' o:AObj}(hm:mO f o' o=true)(hl:o'.live=true)(h:ObjRel N ρ L O o):¬ N L.B:=by
 unfold mO at hm
 split at hm
 ·cases hl
 all_goals first
  | cases hl;done
  | (split at hm<;>first | exact h.1 | cases hm)
  | cases hm
end
end Go.VM
namespace Go.VM
structure MRow where
 args:List AV
 pre:List (Key × AObj)
 val:AV
 post:List (Key × AObj)
def fG:List (Key × AObj)→RT AObj→RT AObj
 | [],t=>t
 | p::r,t=>fG r (t.set p.2 p.1)
def MRow.preT(r:MRow):RT AObj:=fG r.pre RT.nil
def MRow.tgtT(r:MRow):RT AObj:=fG r.post r.preT
def trk(preT tgtT:RT AObj)(π:RT Key)(b:Key):Option Key:=match tgtT.get b with
 | none=>none
 | some _=>match preT.get b with
  | some _=>some b
  | none=>π.get b
def tn(f:Key→Option Key)(tgtT:RT AObj)(h:Heap):List (Key × AObj)→Bool
 | []=>true
 | p::r=>match tgtT.get p.1,f p.1 with
  | some o',some b=>(match h.get b with
   | some o=>cond (mO f o' o) (tn f tgtT h r) false
   | none=>false)
  | _,_=>false
def xe(π:RT Key)(preT:RT AObj):List (Key × AObj)→RT Key→Bool
 | [],_=>true
 | p::r,inv=>match preT.get p.1 with
  | some _=>xe π preT r inv
  | none=>match π.get p.1 with
   | none=>false
   | some b=>match preT.get b,inv.get b with
    | none,none=>xe π preT r (inv.set p.1 b)
    | _,_=>false
def K6(r:MRow)(v:AV)(h:Heap)(π:RT Key):Bool:=
 cond (mV (trk r.preT r.tgtT π) 20 r.val v) (cond (tn (trk r.preT r.tgtT π) r.tgtT h r.post) (cond (tn (trk r.preT r.tgtT π) r.tgtT h r.pre) (xe π r.preT r.post RT.nil) false) false) false
def qx(g:AV→AV→List (Key × Key)):List AV→List AV→List (Key × Key)
 | a::x,b::y=>cat (g a b) (qx g x y)
 | _,_=>[]
def jl:Nat→AV→AV→List (Key × Key)
 | 0,_,_=>[]
 | d+1,x,y=>match x with
  | .ptr a _=>(match y with | .ptr b _=>[(a,b)] | _=>[])
  | .slice a _ _ _=>(match y with | .slice b _ _ _=>[(a,b)] | _=>[])
  | .map a=>(match y with | .map b=>[(a,b)] | _=>[])
  | .iface _ a=>(match y with | .iface _ b=>jl d a b | _=>[])
  | .func _ a b=>(match y with | .func _ a' b'=>cat (qx (jl d) a a') (qx (jl d) b b') | _=>[])
  | .agg a=>(match y with | .agg b=>qx (jl d) a b | _=>[])
  | .tup a=>(match y with | .tup b=>qx (jl d) a b | _=>[])
  | .tab a _ _=>(match y with | .tab b _ _=>[(a,b)] | _=>[])
  | _=>[]
def K7:List (AV × AV × Nat)→List (AV × AV × Nat)→List (Key × Key)
 | a::x,b::y=>cat (jl 20 a.1 b.1) (cat (jl 20 a.2.1 b.2.1) (K7 x y))
 | _,_=>[]
def Iu(a b:AV):Bool:=match a with
 | .tab _ _ vs=>(match b with | .tab _ _ us=>Bw vs us | _=>false)
 | a=>gt a b
def Iv(k:AV):List (AV × AV)→Option AV
 | []=>none
 | e::r=>cond (Iu k e.1) (some e.2) (Iv k r)
def Iw(v:AV)(x:Option AV):List (Key × Key):=match x with
 | some y=>jl 20 v y
 | none=>[]
def Ix(k:AV):List (AV × AV)→Option AV
 | []=>none
 | e::r=>cond (Iu k e.1) (some e.1) (Ix k r)
def Li(l:List (AV × AV))(k:AV):List (Key × Key):=match k with
 | .tab _ _ _=>Iw k (Ix k l)
 | _=>[]
def HT(l:List (AV × AV)):List (AV × AV)→List (Key × Key)
 | []=>[]
 | e::r=>cat (Li l e.1) (cat (Iw e.2 (Iv e.1 l)) (HT l r))
def Lj(l:List (AV × AV × Nat)):List (List (AV × AV × Nat) × Nat)→List (Key × Key)
 | []=>[]
 | v::_=>HT (p0 l) (p0 v.1)
def HU(o' o:AObj):List (Key × Key):=match o' with
 | .cells _ cs _ _=>(match o with | .cells _ cs2 _ _=>qx (jl 20) cs cs2 | _=>[])
 | .map es _=>(match o with | .map es2 _=>K7 es es2 | _=>[])
 | .lmap es=>(match o with | .lmap es2=>HT es2 es | .map es2 _=>HT (p0 es2) es | _=>[])
 | .mapAlt vs=>(match o with | .map es2 _=>Lj es2 vs | _=>[])
 | _=>[]
def K8(x y:Option AObj):List (Key × Key):=match x,y with
 | some a,some b=>HU a b
 | _,_=>[]
def Lk(preT tgtT:RT AObj)(h:Heap)(ih:List (Key × Key)→RT Key→RT Key)(l:List (Key × Key))(π:RT Key):RT Key:=match l with
 | []=>π
 | p::r=>match preT.get p.1 with
  | some _=>ih r π
  | none=>match π.get p.1 with
   | some _=>ih r π
   | none=>ih (cat (K8 (tgtT.get p.1) (h.get p.2)) r) (π.set p.2 p.1)
def uni(preT tgtT:RT AObj)(h:Heap)(n:Nat):List (Key × Key)→RT Key→RT Key:=Nat.rec (motive:=fun _=>List (Key × Key)→RT Key→RT Key) (fun _ π=>π) (fun _ ih=>Lk preT tgtT h ih) n
def Bz(tgtT:RT AObj)(h:Heap):List (Key × AObj)→List (Key × Key)
 | []=>[]
 | p::r=>cat (K8 (tgtT.get p.1) (h.get p.1)) (Bz tgtT h r)
def covers(r:MRow)(v:AV)(h:Heap):Bool:=K6 r v h (uni r.preT r.tgtT h 1000000 (cat (jl 20 r.val v) (Bz r.tgtT h r.pre)) RT.nil)
def Iy:List (AV × AV)→List (AV × AV)→Bool
 | [],[]=>true
 | a::x,b::y=>cond (fA 60 a.1 b.1) (cond (fA 60 a.2 b.2) (Iy x y) false) false
 | _,_=>false
def Iz:List (List (AV × AV × Nat) × Nat)→List (List (AV × AV × Nat) × Nat)→Bool
 | [],[]=>true
 | a::x,b::y=>cond (Nat.beq a.2 b.2) (cond (Ft a.1 b.1) (Iz x y) false) false
 | _,_=>false
def LU(a b:AObj):Bool:=match a with
 | .lmap es=>(match b with | .lmap es'=>Iy es es' | _=>false)
 | .mapAlt vs=>(match b with | .mapAlt vs'=>Iz vs vs' | _=>false)
 | .bits e n c=>(match b with | .bits e' n' c'=>cond (Nat.beq e e') (cond (Nat.beq n n') (Nat.beq c c') false) false | _=>false)
 | .bytes e n=>(match b with | .bytes e' n'=>cond (Nat.beq e e') (Nat.beq n n') false | _=>false)
 | a=>HD a b
def v8{α:Type}(x:Option α):Bool:=match x with
 | some _=>true
 | none=>false
def inT(t:RT AObj)(b:Key):Bool:=v8 (t.get b)
def dB(o:AObj):Bool:=match o with
 | .cells _ _ _ _=>true
 | .map _ _=>true
 | .lmap _=>true
 | .mapAlt _=>true
 | .bytes _ _=>true
 | .bits _ _ _=>true
 | .pack _ _ _=>true
 | _=>false
def IA(S:Key→Bool)(st:RT AObj):List (Key × AObj)→Bool
 | []=>true
 | p::r=>cond (lq S p.2) (cond (dB p.2) (cond (v8 (st.get p.1)) false (IA S st r)) false) false
def lX:List (Key × AObj)→RT Key→Bool
 | [],_=>true
 | p::r,t=>cond (v8 (t.get p.1)) false (lX r (t.set p.1 p.1))
def ksL(g:AV→List Key):List AV→List Key
 | []=>[]
 | v::r=>cat (g v) (ksL g r)
def ksV:Nat→AV→List Key
 | 0,_=>[]
 | d+1,v=>match v with
  | .ptr b _=>[b]
  | .slice b _ _ _=>[b]
  | .map b=>[b]
  | .iface _ v=>ksV d v
  | .func (.func _) a b=>cat (ksL (ksV d) a) (ksL (ksV d) b)
  | .agg cs=>ksL (ksV d) cs
  | .tup cs=>ksL (ksV d) cs
  | .tab b _ _=>[b]
  | _=>[]
def ksE:List (AV × AV × Nat)→List Key
 | []=>[]
 | e::r=>cat (ksV 20 e.1) (cat (ksV 20 e.2.1) (ksE r))
def FO:List (AV × AV)→List Key
 | []=>[]
 | e::r=>cat (ksV 20 e.1) (cat (ksV 20 e.2) (FO r))
def inL(b:Key):List Key→Bool
 | []=>false
 | a::r=>cond (Key.same a b) true (inL b r)
def wb(b:Key):List (List (AV × AV × Nat) × Nat)→Bool
 | []=>true
 | v::r=>cond (inL b (ksE v.1)) (wb b r) false
def nj(vs:List (List (AV × AV × Nat) × Nat)):List Key→List Key
 | []=>[]
 | b::r=>cond (wb b vs) (b::nj vs r) (nj vs r)
def ksA(vs:List (List (AV × AV × Nat) × Nat)):List Key:=match vs with
 | []=>[]
 | v::_=>nj vs (ksE v.1)
def ksO(o:AObj):List Key:=match o with
 | .cells _ cs _ _=>ksL (ksV 20) cs
 | .map es _=>ksE es
 | .lmap es=>FO es
 | .mapAlt vs=>ksA vs
 | _=>[]
def zw:List Key→RT Key→RT Key
 | [],t=>t
 | b::r,t=>zw r (t.set b b)
def nl:List (Key × AObj)→RT Key→Bool
 | [],_=>true
 | p::r,t=>cond (v8 (t.get p.1)) (nl r (zw (ksO p.2) t)) false
def MRow.ok(P:Program)(laid:List (Nat × AObj))(r:MRow):Bool:=
 cond (cu (e9 (inT r.preT) 20) r.args) (cond (IA (inT r.preT) (startT laid P.globals.size) r.pre) (cond (lX r.pre RT.nil) (nl r.pre (zw (ksL (ksV 20) r.args) RT.nil)) false) false) false
def FP:List (List (AV × AV × Nat) × Nat)→List AObj
 | []=>[]
 | v::r=>.map v.1 v.2::FP r
def IE(o:AObj):List AObj:=match o with
 | .mapAlt vs=>FP vs
 | o=>[o]
def xf(b:Key)(o:AObj):List (List (Key × AObj))→List (List (Key × AObj))
 | []=>[]
 | l::r=>((b,o)::l)::xf b o r
def CP(b:Key)(ls:List (List (Key × AObj))):List AObj→List (List (Key × AObj))
 | []=>[]
 | o::r=>cat (xf b o ls) (CP b ls r)
def picks:List (Key × AObj)→List (List (Key × AObj))
 | []=>[[]]
 | p::r=>CP p.1 (picks r) (IE p.2)
def startM(P:Program)(laid:List (Nat × AObj))(f:Nat)(args:List AV)(pre:List (Key × AObj))(k:Key):St:=match bodyOf P f with
 | some c=>enter P f args .normal [] (bp pre ⟨startT laid P.globals.size,k⟩) c
 | none=>.bad "no body"
theorem cG:∀ {l:List (Key × AObj)} {t:RT AObj} {b:Key},(∀ p ∈ l,p.1≠b)→(fG l t).get b=t.get b
 | [],_,_,_=>rfl
 | p::r,t,b,h=>by
  show (fG r (t.set p.2 p.1)).get b=_
  rw [cG fun q hq=>h q (List.mem_cons_of_mem _ hq),RT.get_set_other _ _ _ _ (h p (List.mem_cons_self ..))]
theorem np:∀ {l:List (Key × AObj)} {t:RT AObj} {b:Key},(∃ p ∈ l,p.1=b)→∃ o,(fG l t).get b=some o∧(b,o) ∈ l
 | [],_,_,⟨_,hp,_⟩=>by cases hp
 | p::r,t,b,h=>by
  by_cases hr:∃ q ∈ r,q.1=b
  ·obtain⟨o,h1,h2⟩:=np (t:=t.set p.2 p.1) hr
   exact⟨o,h1,List.mem_cons_of_mem _ h2⟩
  ·have hp:p.1=b:=by
    obtain⟨q,hq,e⟩:=h
    cases hq with
    | head=>exact e
    | tail _ hq=>exact absurd ⟨q,hq,e⟩ hr
   refine⟨p.2,?_,by rw [←hp];exact List.mem_cons_self ..⟩
   show (fG r (t.set p.2 p.1)).get b=_
   rw [cG fun q hq e=>hr ⟨q,hq,e⟩,←hp,RT.get_set_same]
theorem p3:∀ {l:List (Key × AObj)} {t t':RT AObj} {b:Key},(∃ p ∈ l,p.1=b)→(fG l t).get b=(fG l t').get b
 | [],_,_,_,⟨_,hp,_⟩=>by cases hp
 | p::r,t,t',b,h=>by
  show (fG r (t.set p.2 p.1)).get b=(fG r (t'.set p.2 p.1)).get b
  by_cases hr:∃ q ∈ r,q.1=b
  ·exact p3 hr
  ·have hp:p.1=b:=by
    obtain⟨q,hq,e⟩:=h
    cases hq with
    | head=>exact e
    | tail _ hq=>exact absurd ⟨q,hq,e⟩ hr
   rw [cG fun q hq e=>hr ⟨q,hq,e⟩,cG fun q hq e=>hr ⟨q,hq,e⟩,←hp,RT.get_set_same,RT.get_set_same]
theorem cX{l:List (Key × AObj)}{t:RT AObj}{b:Key}{o:AObj}(h:(fG l t).get b=some o):(b,o) ∈ l∨((∀ p ∈ l,p.1≠b)∧t.get b=some o):=by
 by_cases hb:∃ p ∈ l,p.1=b
 ·obtain⟨o',h1,h2⟩:=np (t:=t) hb
  rw [h1] at h;injection h with h;subst h
  exact .inl h2
 ·have hb':∀ p ∈ l,p.1≠b:=fun p hp e=>hb ⟨p,hp,e⟩
  rw [cG hb'] at h
  exact .inr ⟨hb',h⟩
theorem iD:∀ {l:List (Key × AObj)} {t:RT AObj},(l.map (·.1)).Nodup→∀ p ∈ l,(fG l t).get p.1=some p.2
 | [],_,_,p,hp=>by cases hp
 | q::r,t,hn,p,hp=>by
  rw [List.map_cons,List.nodup_cons] at hn
  cases hp with
  | head=>
   show (fG r (t.set q.2 q.1)).get q.1=_
   rw [cG fun x hx e=>hn.1 (List.mem_map.2 ⟨x,hx,e⟩),RT.get_set_same]
  | tail _ hp=>exact iD hn.2 p hp
theorem p4:∀ (l:List (Key × AObj)) (t:RT AObj) (n:Key),bp l (Heap.mk t n)=Heap.mk (fG l t) n
 | [],_,_=>rfl
 | p::r,t,n=>p4 r (t.set p.2 p.1) n
theorem jm:∀ {l:List (Key × AObj)} {t:RT Key},lX l t=true→(∀ p ∈ l,t.get p.1=none)∧(l.map (·.1)).Nodup
 | [],_,_=>⟨(fun _ h=>nomatch h),List.nodup_nil⟩
 | p::r,t,h=>by
  unfold lX at h
  cases hp:t.get p.1 with
  | some x=>rw [hp] at h;cases h
  | none=>
   rw [hp] at h
   have h:lX r (t.set p.1 p.1)=true:=h
   obtain⟨h1,h2⟩:=jm h
   have hne:∀ q ∈ r,p.1≠q.1:=fun q hq e=>by
    have:=h1 q hq
    rw [←e,RT.get_set_same] at this;cases this
   refine⟨fun q hq=>?_,?_⟩
   ·cases hq with
    | head=>exact hp
    | tail _ hq=>
     have:=h1 q hq
     rwa [RT.get_set_other _ _ _ _ (hne q hq)] at this
   ·rw [List.map_cons,List.nodup_cons]
    refine⟨fun hm=>?_,h2⟩
    obtain⟨q,hq,e⟩:=List.mem_map.1 hm
    exact hne q hq e.symm
theorem jn{f:Key→Option Key}{tgtT:RT AObj}{h:Heap}:∀ {l:List (Key × AObj)},tn f tgtT h l=true→∀ p ∈ l,∃ o' b o,tgtT.get p.1=some o'∧f p.1=some b∧h.get b=some o∧mO f o' o=true
 | [],_,p,hp=>by cases hp
 | q::r,ha,p,hp=>by
  unfold tn at ha
  split at ha
  ·rename_i o' b h1 h2
   split at ha
   ·rename_i o h3
    obtain⟨h4,h5⟩:=ad ha
    cases hp with
    | head=>exact⟨o',b,o,h1,h2,h3,h4⟩
    | tail _ hp=>exact jn h5 p hp
   ·cases ha
  ·cases ha
theorem gR{π:RT Key}{preT:RT AObj}:∀ {l:List (Key × AObj)} {inv:RT Key},xe π preT l inv=true→
  (∀ p ∈ l,preT.get p.1=none→∃ b,π.get p.1=some b∧preT.get b=none∧inv.get b=none)∧(∀ p ∈ l,∀ q ∈ l,preT.get p.1=none→preT.get q.1=none→π.get p.1=π.get q.1→p.1=q.1)
 | [],_,_=>⟨(fun _ h=>nomatch h),(fun _ h=>nomatch h)⟩
 | x::r,inv,h=>by
  unfold xe at h
  split at h
  ·rename_i o hx
   obtain⟨h1,h2⟩:=gR h
   refine⟨fun p hp hn=>?_,fun p hp q hq hn hm e=>?_⟩
   ·cases hp with
    | head=>rw [hx] at hn;cases hn
    | tail _ hp=>exact h1 p hp hn
   ·cases hp with
    | head=>rw [hx] at hn;cases hn
    | tail _ hp=>cases hq with
     | head=>rw [hx] at hm;cases hm
     | tail _ hq=>exact h2 p hp q hq hn hm e
  ·rename_i hx
   split at h
   ·cases h
   ·rename_i b hb
    split at h
    ·rename_i hp1 hi1
     obtain⟨h1,h2⟩:=gR h
     have hne:∀ p ∈ r,preT.get p.1=none→π.get p.1≠some b:=fun p hp hn e=>by
      obtain⟨b',e1,_,e3⟩:=h1 p hp hn
      rw [e] at e1;injection e1 with e1;subst e1
      rw [RT.get_set_same] at e3;cases e3
     refine⟨fun p hp hn=>?_,fun p hp q hq hn hm e=>?_⟩
     ·cases hp with
      | head=>exact⟨b,hb,hp1,hi1⟩
      | tail _ hp=>
       obtain⟨b',e1,e2,e3⟩:=h1 p hp hn
       have:b≠b':=fun e=>hne p hp hn (by rw [e1,e])
       exact⟨b',e1,e2,by rwa [RT.get_set_other _ _ _ _ this] at e3⟩
     ·cases hp with
      | head=>cases hq with
       | head=>rfl
       | tail _ hq=>exact absurd (e.symm.trans hb) (hne q hq hm)
      | tail _ hp=>cases hq with
       | head=>exact absurd (e.trans hb) (hne p hp hn)
       | tail _ hq=>exact h2 p hp q hq hn hm e
    ·cases h
section
variable {ρ:Rho}
theorem iE{g:AV→List Key}(hg:∀ v V,Rel ρ v V→∀ b ∈ g v,∃ L,ρ b=some L):∀ {l:List AV} {L:List Value},RelL ρ l L→∀ b ∈ ksL g l,∃ L,ρ b=some L
 | _,_,.nil,b,hb=>by cases hb
 | _,_,.cons v V r R hv hr,b,hb=>by
  rw [show ksL g (v::r)=cat (g v) (ksL g r) from rfl,aL] at hb
  rcases List.mem_append.1 hb with h1 | h1
  ·exact hg v V hv b h1
  ·exact iE hg hr b h1
theorem iF:∀ (d:Nat) (v:AV) (V:Value),Rel ρ v V→∀ b ∈ ksV d v,∃ L,ρ b=some L
 | 0,_,_,_,b,hb=>by cases hb
 | d+1,v,V,hr,b,hb=>by
  have ih:=iF d
  cases hr with
  | ptr a o L e=>obtain rfl:b=a:=by simpa [ksV] using hb
                 exact⟨L,e⟩
  | sliceIs a o l c L e=>obtain rfl:b=a:=by simpa [ksV] using hb
                         exact⟨L,e⟩
  | sliceMore a o l c sz L e _ _=>obtain rfl:b=a:=by simpa [ksV] using hb
                                  exact⟨L,e⟩
  | map a L e=>obtain rfl:b=a:=by simpa [ksV] using hb
               exact⟨L,e⟩
  | iface t v V h=>exact ih v V h b hb
  | func f x y X Y hx hy=>
   rw [show ksV (d+1) (.func (.func f) x y)=cat (ksL (ksV d) x) (ksL (ksV d) y) from rfl,aL] at hb
   rcases List.mem_append.1 hb with h1 | h1
   ·exact iE ih hx b h1
   ·exact iE ih hy b h1
  | agg x X hx=>exact iE ih hx b hb
  | tup x X hx=>exact iE ih hx b hb
  | tab a ds vs L V e _ _=>obtain rfl:b=a:=by simpa [ksV] using hb
                           exact⟨L,e⟩
  | _=>cases hb
theorem xg:∀ {es:List (AV × AV × Nat)} {E:List MapEntry},ERel ρ es E→∀ b ∈ ksE es,∃ L,ρ b=some L
 | _,_,.nil,b,hb=>by cases hb
 | _,_,.cons k v K V c r R hk hv hr,b,hb=>by
  rw [show ksE ((k,v,c)::r)=cat (ksV 20 k) (cat (ksV 20 v) (ksE r)) from rfl,aL,aL] at hb
  rcases List.mem_append.1 hb with h1 | h1
  ·exact iF 20 k K hk b h1
  ·rcases List.mem_append.1 h1 with h1 | h1
   ·exact iF 20 v V hv b h1
   ·exact xg hr b h1
theorem zx:∀ {es:List (AV × AV)} {b:Key},b ∈ FO es→∃ e ∈ es,b ∈ ksV 20 e.1∨b ∈ ksV 20 e.2
 | [],_,hb=>by cases hb
 | e::r,b,hb=>by
  rw [show FO (e::r)=cat (ksV 20 e.1) (cat (ksV 20 e.2) (FO r)) from rfl,aL,aL] at hb
  rcases List.mem_append.1 hb with h1 | h1
  ·exact⟨e,List.mem_cons_self ..,.inl h1⟩
  ·rcases List.mem_append.1 h1 with h1 | h1
   ·exact⟨e,List.mem_cons_self ..,.inr h1⟩
   ·obtain⟨x,hx,h2⟩:=zx h1
    exact⟨x,List.mem_cons_of_mem _ hx,h2⟩
theorem zy:∀ {es:List (AV × AV × Nat)} {E:List MapEntry},ERel ρ es E→∀ e ∈ es,∃ K V,Rel ρ e.1 K∧Rel ρ e.2.1 V
 | _,_,.nil,e,he=>by cases he
 | _,_,.cons k v K V c r R hk hv hr,e,he=>by
  cases he with
  | head=>exact⟨K,V,hk,hv⟩
  | tail _ he=>exact zy hr e he
theorem CQ{b:Key}:∀ {l:List Key},inL b l=true→b ∈ l
 | [],h=>by cases h
 | a::r,h=>by
  unfold inL at h
  cases hs:Key.same a b with
  | true=>rw [(Key.same_iff _ _).1 hs];exact List.mem_cons_self ..
  | false=>rw [hs] at h;exact List.mem_cons_of_mem _ (CQ (l:=r) h)
theorem wc{b:Key}:∀ {vs:List (List (AV × AV × Nat) × Nat)},wb b vs=true→∀ v ∈ vs,b ∈ ksE v.1
 | [],_,v,hv=>by cases hv
 | x::r,h,v,hv=>by
  unfold wb at h
  obtain⟨h1,h2⟩:=ad h
  cases hv with
  | head=>exact CQ h1
  | tail _ hv=>exact wc h2 v hv
theorem jo{vs:List (List (AV × AV × Nat) × Nat)}{b:Key}:∀ {l:List Key},b ∈ nj vs l→wb b vs=true
 | [],h=>by cases h
 | a::r,h=>by
  unfold nj at h
  cases hc:wb a vs with
  | true=>
   rw [hc] at h
   cases h with
   | head=>exact hc
   | tail _ h=>exact jo h
  | false=>rw [hc] at h;exact jo (l:=r) h
theorem HV{N:Nat→Prop}{L:Loc}{O:Option Obj}{o:AObj}(h:ObjRel N ρ L O o):∀ b ∈ ksO o,∃ L,ρ b=some L:=by
 intro b hb
 cases o with
 | cells e cs opn fz=>obtain⟨_,C,q,_,_,_,⟨_,h1⟩,_⟩:=h;exact iE (iF 20) h1 b hb
 | map es c=>obtain⟨_,E,_,h1⟩:=h;exact xg h1 b hb
 | lmap es=>
  obtain⟨_,E,c,_,⟨es',hp,he⟩,_⟩:=h
  obtain⟨x,hx,h2⟩:=zx hb
  obtain⟨y,hy,e1⟩:=List.mem_map.1 (hp.mem_iff.2 hx)
  obtain⟨K,V,r1,r2⟩:=zy he y hy
  subst e1
  rcases h2 with h2 | h2
  ·exact iF 20 _ K r1 b h2
  ·exact iF 20 _ V r2 b h2
 | mapAlt vs=>
  obtain⟨_,v,hv,E,_,h1⟩:=h
  cases vs with
  | nil=>cases hb
  | cons x r=>exact xg h1 b (wc (jo hb) v hv)
 | _=>cases hb
theorem p5:∀ {l:List Key} {t:RT Key} {b:Key},v8 ((zw l t).get b)=true→b ∈ l∨v8 (t.get b)=true
 | [],_,_,h=>.inr h
 | a::r,t,b,h=>by
  rcases p5 (l:=r) (t:=t.set a a) h with h1 | h1
  ·exact .inl (List.mem_cons_of_mem _ h1)
  ·by_cases e:a=b
   ·exact .inl (by rw [e];exact List.mem_cons_self ..)
   ·rw [RT.get_set_other _ _ _ _ e] at h1;exact .inr h1
theorem nq:∀ {l:List (Key × AObj)} {t:RT Key},nl l t=true→(∀ b,v8 (t.get b)=true→∃ L,ρ b=some L)→(∀ p ∈ l,(∃ L,ρ p.1=some L)→∀ b ∈ ksO p.2,∃ L,ρ b=some L)→∀ p ∈ l,∃ L,ρ p.1=some L
 | [],_,_,_,_,p,hp=>by cases hp
 | q::r,t,h,ht,hl,p,hp=>by
  unfold nl at h
  obtain⟨h1,h2⟩:=ad h
  have hq:=ht _ h1
  cases hp with
  | head=>exact hq
  | tail _ hp=>
   refine nq h2 (fun b hb=>?_) (fun x hx=>hl x (List.mem_cons_of_mem _ hx)) p hp
   rcases p5 hb with h3 | h3
   ·exact hl q (List.mem_cons_self ..) hq b h3
   ·exact ht b h3
end
end Go.VM
namespace Go.VM
theorem ObjRel.weak{N N':Nat→Prop}(hN:∀ k,N' k→N k){ρ:Rho}{L:Loc}{O:Option Obj}{o:AObj}(h:ObjRel N ρ L O o):ObjRel N' ρ L O o:=by
 cases o with
 | fixed e cs=>exact h
 | dead=>trivial
 | dom ds=>exact h
 | ivl lo hi=>exact h
 | cells e cs a b=>exact⟨fun e=>h.1 (hN _ e),h.2⟩
 | map es c=>exact⟨fun e=>h.1 (hN _ e),h.2⟩
 | siter a b c=>exact⟨fun e=>h.1 (hN _ e),h.2⟩
 | miter a b c d=>exact⟨fun e=>h.1 (hN _ e),h.2⟩
 | loop a b c d e f g i=>exact⟨fun e=>h.1 (hN _ e),h.2⟩
 | deferred ds=>exact⟨fun e=>h.1 (hN _ e),h.2⟩
 | pack a b c=>exact⟨fun e=>h.1 (hN _ e),h.2⟩
 | packo a b c d=>exact (let ⟨t',ha,h1,h2⟩:=h;⟨t',ha,fun e=>h1 (hN _ e),h2⟩)
 | lmap es=>exact⟨fun e=>h.1 (hN _ e),h.2⟩
 | mapAlt vs=>exact⟨fun e=>h.1 (hN _ e),h.2⟩
 | bytes e n=>exact⟨fun e=>h.1 (hN _ e),h.2⟩
 | rowG v b=>exact h
 | bits a b c=>exact⟨fun e=>h.1 (hN _ e),h.2⟩
 | smap es c=>exact⟨fun e=>h.1 (hN _ e),h.2⟩
 | smiter m a b c=>exact⟨fun e=>h.1 (hN _ e),h.2⟩
 | umap m l n=>exact⟨fun e=>h.1 (hN _ e),h.2⟩
theorem BA{N:Nat→Prop}{ρ:Rho}{L:Loc}{O:Option Obj}{o:AObj}(hk:dB o=true)(h:ObjRel N ρ L O o):¬ N L.B:=by
 cases o<;>first | exact h.1 | cases hk
theorem eg{o:AObj}(hk:dB o=true):o.live=true:=by
 cases o<;>first | rfl | cases hk
theorem ObjRel.refit{N N':Nat→Prop}{ρ ρ':Rho}{S:Key→Bool}{L:Loc}{O:Option Obj}{o:AObj}(hk:dB o=true)(hN:¬ N' L.B)(hS:∀ b L,S b=true→ρ b=some L→ρ' b=some L)(ho:lq S o=true)(h:ObjRel N ρ L O o):ObjRel N' ρ' L O o:=by
 have h1:=(ObjRel.within (N:=N) (N':=fun _=>False) (fun _ e=>e.elim) hS ho h).1
 cases o<;>first | exact⟨hN,h1.2⟩ | cases hk
theorem we:∀ {vs:List (List (AV × AV × Nat) × Nat)} {v:List (AV × AV × Nat) × Nat},v ∈ vs→AObj.map v.1 v.2 ∈ FP vs
 | x::r,v,h=>by
  cases h with
  | head=>exact List.mem_cons_self ..
  | tail _ h=>exact List.mem_cons_of_mem _ (we h)
theorem qc{b:Key}{o:AObj}:∀ {ls:List (List (Key × AObj))} {l:List (Key × AObj)},l ∈ ls→(b,o)::l ∈ xf b o ls
 | x::r,l,h=>by
  cases h with
  | head=>exact List.mem_cons_self ..
  | tail _ h=>exact List.mem_cons_of_mem _ (qc h)
theorem Ex{b:Key}{ls:List (List (Key × AObj))}{l:List (Key × AObj)}(hl:l ∈ ls){os:List AObj}{o:AObj}(h:o ∈ os):(b,o)::l ∈ CP b ls os:=by
 induction os with
 | nil=>cases h
 | cons x r ih=>
  unfold CP
  rw [aL]
  cases h with
  | head=>exact List.mem_append_left _ (qc hl)
  | tail _ h=>exact List.mem_append_right _ (ih h)
theorem zz{Q:Key→AObj→Prop}(hQ:∀ b vs,Q b (.mapAlt vs)→∃ v,v ∈ vs∧Q b (.map v.1 v.2)):∀ {l:List (Key × AObj)},(∀ p ∈ l,Q p.1 p.2)→∃ c,c ∈ picks l∧c.map (·.1)=l.map (·.1)∧∀ p ∈ c,Q p.1 p.2
 | [],_=>⟨[],List.mem_cons_self ..,rfl,fun _ h=>by cases h⟩
 | (b,o)::r,h=>by
  obtain⟨c,hc,hk,hq⟩:=zz hQ (l:=r) fun p hp=>h p (List.mem_cons_of_mem _ hp)
  have hb:Q b o:=h (b,o) (List.mem_cons_self ..)
  have fin:∀ o',o' ∈ IE o→Q b o'→∃ c,c ∈ picks ((b,o)::r)∧c.map (·.1)=((b,o)::r).map (·.1)∧∀ p ∈ c,Q p.1 p.2:=fun o' ho' hq'=>
   ⟨(b,o')::c,Ex hc ho',by simp [hk],fun p hp=>by
     cases hp with
     | head=>exact hq'
     | tail _ hp=>exact hq p hp⟩
  cases o with
  | mapAlt vs=>
   obtain⟨v,hv,hq'⟩:=hQ b vs hb
   exact fin _ (we hv) hq'
  | _=>exact fin _ (List.mem_cons_self ..) hb
theorem tp{preT tgtT:RT AObj}{π:RT Key}{a b:Key}(h:trk preT tgtT π a=some b):(∃ o,tgtT.get a=some o)∧(((∃ o,preT.get a=some o)∧b=a)∨(preT.get a=none∧π.get a=some b)):=by
 unfold trk at h
 split at h
 ·cases h
 ·rename_i o ho
  refine⟨⟨o,ho⟩,?_⟩
  split at h
  ·rename_i o2 h2
   injection h with h
   exact .inl ⟨⟨o2,h2⟩,h.symm⟩
  ·rename_i h2
   exact .inr ⟨h2,h⟩
section
variable [H:Hook] {P:Program}
end
end Go.VM
namespace Go.VM
section
variable [H:Hook] {P:Program}
end
end Go.VM
namespace Go.VM
section
variable [H:Hook] {P:Program} {w0:Base}
def FQ(r:Row):Option AV:=cond r.val.plain (some r.val) none
def Ji(rows:List Row)(args:List AV):Option AV:=(c8 args rows).bind FQ
def K9(b:Key)(ds:List Nat)(h:Heap)(o:Option (List AV)):Option (AV × Heap):=match ds,o with
 | _::_,some rs=>some (.tab b ds rs,h)
 | _,_=>none
def Ka(rows:List Row)(args:List AV)(h:Heap):Option (AV × Heap):=match jA args with
 | some b=>K9 b (b9 (h.get b)) h (dt (fun d=>Ji rows (aT b d args)) (b9 (h.get b)))
 | none=>none
def lY:List (List AV)→Option (List AV × List (List AV))
 | []=>some ([],[])
 | l::r=>match l with
  | []=>none
  | v::l=>(lY r).bind fun p=>cond v.plain (some (v::p.1,l::p.2)) none
def FS(b:Key)(ds:List Nat)(vs:List AV):AV:=match vs with
 | []=>.junk
 | v::r=>cond (iZ v r) v (.tab b ds (v::r))
def tq:List (List AV)→Bool
 | []=>true
 | []::r=>tq r
 | (_::_)::_=>false
def nt(b:Key)(ds:List Nat):Nat→List (List AV)→Option (List AV)
 | 0,l=>cond (tq l) (some []) none
 | n+1,l=>(lY l).bind fun p=>(nt b ds n p.2).bind fun cs=>some (FS b ds p.1::cs)
def fq(v:AV):Bool:=match v with
 | .tup _=>true
 | _=>false
def dJ(v:AV):List AV:=match v with
 | .tup l=>l
 | v=>[v]
def BB(r:Row):Option AV:=some r.val
def p6(c:Bool):List AV→Bool
 | []=>true
 | v::r=>cond (Bool.xor c (fq v)) false (p6 c r)
def CR(c:Bool)(l:List AV):Option AV:=match c,l with
 | true,l=>some (.tup l)
 | false,[v]=>some v
 | false,_=>none
def nu(b:Key)(ds:List Nat)(vs:List AV):Option AV:=match vs with
 | []=>none
 | v::r=>cond (p6 (fq v) r) ((nt b ds (dJ v).length ((v::r).map dJ)).bind (CR (fq v))) none
def FT(h:Heap)(o:Option AV):Option (AV × Heap):=match o with
 | some v=>some (v,h)
 | none=>none
def liftTab(t:List AV→List Row)(args:List AV)(h:Heap):Option (AV × Heap):=match jA args with
 | some b=>FT h ((j3 (fun xs=>(c8 xs (t xs)).bind BB) b args (b9 (h.get b))).bind (nu b (b9 (h.get b))))
 | none=>none
def eO{α:Type}(d:Nat):List Nat→List α→Option α
 | e::ds,v::vs=>cond (Nat.beq d e) (some v) (eO d ds vs)
 | _,_=>none
omit H in
theorem zB{α β:Type}(g:α→β)(d:Nat):∀ (ds:List Nat) (vs:List α),eO d ds (vs.map g)=(eO d ds vs).map g
 | [],vs=>by cases vs<;>rfl
 | _::_,[]=>rfl
 | e::ds,v::vs=>by
  show cond (Nat.beq d e) (some (g v)) (eO d ds (vs.map g))=(cond (Nat.beq d e) (some v) (eO d ds vs)).map g
  rw [zB g d ds vs]
  cases Nat.beq d e<;>rfl
omit H in
theorem wg{d:Nat}{v:AV}:∀ {ds:List Nat} {vs:List AV},eO d ds vs=some v→aQ d ds vs=v
 | [],vs,h=>by cases vs<;>cases h
 | _::_,[],h=>by cases h
 | e::ds,x::vs,h=>by
  have h:cond (Nat.beq d e) (some x) (eO d ds vs)=some v:=h
  show cond (Nat.beq d e) x (aQ d ds vs)=v
  cases hb:Nat.beq d e with
  | true=>rw [hb] at h;injection h
  | false=>rw [hb] at h;exact wg h
omit H in
theorem nv{α:Type}{d:Nat}{v:α}:∀ {ds:List Nat} {vs:List α},eO d ds vs=some v→v ∈ vs
 | [],vs,h=>by cases vs<;>cases h
 | _::_,[],h=>by cases h
 | e::ds,x::vs,h=>by
  have h:cond (Nat.beq d e) (some x) (eO d ds vs)=some v:=h
  cases hb:Nat.beq d e with
  | true=>rw [hb] at h;injection h with h;subst h;exact List.mem_cons_self
  | false=>rw [hb] at h;exact List.mem_cons_of_mem _ (nv h)
omit H in
theorem jp{f:Nat→Option AV}:∀ {ds:List Nat} {rs:List AV},dt f ds=some rs→∀ d ∈ ds,∃ v,eO d ds rs=some v∧f d=some v
 | [],_,_,_,hd=>by cases hd
 | e::ds,rs,hl,d,hd=>by
  have hl:((f e).bind fun v=>(dt f ds).bind fun vs=>some (v::vs))=some rs:=hl
  cases hf:f e with
  | none=>rw [hf] at hl;cases hl
  | some v=>
   rw [hf] at hl
   cases hr:dt f ds with
   | none=>rw [hr] at hl;cases hl
   | some vs=>
    rw [hr] at hl;cases hl
    show ∃ u,cond (Nat.beq d e) (some v) (eO d ds vs)=some u∧f d=some u
    cases hb:Nat.beq d e with
    | true=>have:=Nat.eq_of_beq_eq_true hb;subst this;exact⟨v,rfl,hf⟩
    | false=>
     cases hd with
     | head=>rw [Nat.beq_refl] at hb;cases hb
     | tail _ hd=>exact jp hr d hd
omit H in
theorem BC{d:Nat}{l:List AV}:∀ {ds:List Nat} {ls:List (List AV)} {p:List AV × List (List AV)},lY ls=some p→eO d ds ls=some l→∃ v l',l=v::l'∧eO d ds p.1=some v∧eO d ds p.2=some l'∧v.plain=true:=by
 intro ds
 induction ds with
 | nil=>intro ls p _ hn;cases ls<;>cases hn
 | cons e ds ih=>
  intro ls p hh hn
  cases ls with
  | nil=>cases hn
  | cons x ls=>
   cases x with
   | nil=>cases hh
   | cons v x=>
    have hh:((lY ls).bind fun p=>cond v.plain (some (v::p.1,x::p.2)) none)=some p:=hh
    cases hq:lY ls with
    | none=>rw [hq] at hh;cases hh
    | some q=>
     rw [hq] at hh
     have hh:cond v.plain (some (v::q.1,x::q.2)) none=some p:=hh
     cases hp:v.plain with
     | false=>rw [hp] at hh;cases hh
     | true=>
      rw [hp] at hh
      have hh:some (v::q.1,x::q.2)=some p:=hh
      injection hh with hh;subst hh
      have hn:cond (Nat.beq d e) (some (v::x)) (eO d ds ls)=some l:=hn
      show ∃ u l',l=u::l'∧cond (Nat.beq d e) (some v) (eO d ds q.1)=some u∧cond (Nat.beq d e) (some x) (eO d ds q.2)=some l'∧u.plain=true
      cases hb:Nat.beq d e with
      | true=>rw [hb] at hn;injection hn with hn;subst hn;exact⟨v,x,rfl,rfl,rfl,hp⟩
      | false=>rw [hb] at hn;exact ih hq hn
omit H in
theorem tt{ρ ρ1:Rho}{x:AV}{V:Value}(hp:x.plain=true)(hv:Rel ρ1 x V):Rel ρ x V:=by
 cases hv<;>first | (cases hp;done) | exact .bool _ | exact .int _ _ | exact .str _ _ (by assumption)
omit H in
theorem FU{ρ ρ1:Rho}{b:Key}{L:Loc}{ds:List Nat}{vs:List AV}{v:AV}{V:Value}(hb:ρ b=some L)(hn:eO L.base ds vs=some v)(hp:v.plain=true)(hv:Rel ρ1 v V):Rel ρ (FS b ds vs) V:=by
 cases vs with
 | nil=>cases ds<;>cases hn
 | cons x r=>
  show Rel ρ (cond (iZ x r) x (.tab b ds (x::r))) V
  cases ha:iZ x r with
  | true=>
   have:v=x:=by
    rcases List.mem_cons.1 (nv hn) with h | h
    ·exact h
    ·exact oC ha _ h
   subst this
   exact tt hp hv
  | false=>
   have hl:=wg hn
   exact .tab b ds _ L V hb (by rw [hl];exact hp) (by rw [hl];exact tt hp hv)
omit H in
theorem p7{ρ ρ1:Rho}{b:Key}{L:Loc}{ds:List Nat}(hb:ρ b=some L):∀ {n:Nat} {ls:List (List AV)} {cs l:List AV} {Vs:List Value},nt b ds n ls=some cs→eO L.base ds ls=some l→RelL ρ1 l Vs→RelL ρ cs Vs
 | 0,ls,cs,l,Vs,hc,hn,hv=>by
  have hc:cond (tq ls) (some []) none=some cs:=hc
  cases ha:tq ls with
  | false=>rw [ha] at hc;cases hc
  | true=>
   rw [ha] at hc
   have hc:some ([]:List AV)=some cs:=hc
   injection hc with hc;subst hc
   have key:∀ {ls:List (List AV)},tq ls=true→∀ x ∈ ls,x=[]:=by
    intro ls
    induction ls with
    | nil=>intro _ x hx;cases hx
    | cons y ls ih=>
     intro ha x hx
     cases y with
     | cons _ _=>cases ha
     | nil=>cases hx with
      | head=>rfl
      | tail _ hx=>exact ih ha x hx
   have:=key ha l (nv hn)
   subst this
   cases hv
   exact .nil
 | n+1,ls,cs,l,Vs,hc,hn,hv=>by
  have hc:((lY ls).bind fun p=>(nt b ds n p.2).bind fun cs=>some (FS b ds p.1::cs))=some cs:=hc
  cases hh:lY ls with
  | none=>rw [hh] at hc;cases hc
  | some p=>
   rw [hh] at hc
   have hc:((nt b ds n p.2).bind fun cs=>some (FS b ds p.1::cs))=some cs:=hc
   cases hr:nt b ds n p.2 with
   | none=>rw [hr] at hc;cases hc
   | some cs'=>
    rw [hr] at hc
    have hc:some (FS b ds p.1::cs')=some cs:=hc
    injection hc with hc;subst hc
    obtain⟨v,l',rfl,h1,h2,hp⟩:=BC hh hn
    cases hv with
    | cons _ V _ Vs hv hvs=>exact .cons _ _ _ _ (FU hb h1 hp hv) (p7 hb hr h2 hvs)
omit H in
theorem tu{c:Bool}:∀ {r:List AV},p6 c r=true→∀ x ∈ r,fq x=c
 | [],_,_,hx=>by cases hx
 | y::r,h,x,hx=>by
  have h:cond (Bool.xor c (fq y)) false (p6 c r)=true:=h
  cases hb:Bool.xor c (fq y) with
  | true=>rw [hb] at h;cases h
  | false=>
   rw [hb] at h
   cases hx with
   | head=>revert hb;cases c<;>cases fq y<;>simp
   | tail _ hx=>exact tu h x hx
omit H in
theorem wh{ρ ρ1:Rho}{b:Key}{L:Loc}{ds:List Nat}{vs:List AV}{u v:AV}{V:Value}(hb:ρ b=some L)(hn:eO L.base ds vs=some v)(hj:nu b ds vs=some u)(hv:Rel ρ1 v V):Rel ρ u V:=by
 cases vs with
 | nil=>cases hj
 | cons x r=>
  have hj:cond (p6 (fq x) r) ((nt b ds (dJ x).length ((x::r).map dJ)).bind (CR (fq x))) none=some u:=hj
  cases ha:p6 (fq x) r with
  | false=>rw [ha] at hj;cases hj
  | true=>
   rw [ha] at hj
   have hj:((nt b ds (dJ x).length ((x::r).map dJ)).bind (CR (fq x)))=some u:=hj
   cases hc:nt b ds (dJ x).length ((x::r).map dJ) with
   | none=>rw [hc] at hj;cases hj
   | some cs=>
    rw [hc] at hj
    have hj:CR (fq x) cs=some u:=hj
    have ht:fq v=fq x:=by
     rcases List.mem_cons.1 (nv hn) with h | h
     ·rw [h]
     ·exact tu ha _ h
    have hn':eO L.base ds ((x::r).map dJ)=some (dJ v):=by rw [zB,hn];rfl
    rw [←ht] at hj
    cases hv':fq v with
    | true=>
     rw [hv'] at hj
     have hj:some (AV.tup cs)=some u:=hj
     injection hj with hj;subst hj
     cases v<;>try (cases hv';done)
     rename_i l
     cases hv with
     | tup _ Vs hvs=>exact .tup _ _ (p7 hb hc hn' hvs)
    | false=>
     rw [hv'] at hj
     have hp:dJ v=[v]:=by cases v<;>first | rfl | (cases hv';done)
     rw [hp] at hn'
     have hr:RelL ρ cs [V]:=p7 hb hc hn' (.cons _ _ _ _ hv .nil)
     cases hr with
     | cons c _ cs _ h1 h2=>
      cases h2
      have hj:some c=some u:=hj
      injection hj with hj;subst hj
      exact h1
omit H in
theorem tv{g:List AV→Option AV}{b:Key}:∀ {ds:List Nat} {vs rs:List AV},cI g b ds vs=some rs→∀ d ∈ ds,∃ v,eO d ds rs=some v∧g (aT b d vs)=some v
 | [],_,_,_,_,hd=>by cases hd
 | f::ds,vs,rs,e,d,hd=>by
  have e:((bu b f vs).bind fun xs=>(g xs).bind fun v=>(cI g b ds (bF b vs)).bind fun l=>some (v::l))=some rs:=e
  cases h1:bu b f vs with
  | none=>rw [h1] at e;cases e
  | some xs=>
   rw [h1] at e
   have e:((g xs).bind fun v=>(cI g b ds (bF b vs)).bind fun l=>some (v::l))=some rs:=e
   cases h2:g xs with
   | none=>rw [h2] at e;cases e
   | some v=>
    rw [h2] at e
    have e:((cI g b ds (bF b vs)).bind fun l=>some (v::l))=some rs:=e
    cases h3:cI g b ds (bF b vs) with
    | none=>rw [h3] at e;cases e
    | some l=>
     rw [h3] at e
     have e:some (v::l)=some rs:=e
     cases e
     show ∃ x,cond (Nat.beq d f) (some v) (eO d ds l)=some x∧_
     cases hb:Nat.beq d f with
     | true=>have:=Nat.eq_of_beq_eq_true hb;subst this;rw [dC h1];exact⟨v,rfl,h2⟩
     | false=>
      cases hd with
      | head=>rw [Nat.beq_refl] at hb;cases hb
      | tail _ hd=>rw [←eL hb h1];exact tv h3 d hd
omit H in
theorem BD{g:List AV→Option AV}{b:Key}{vs:List AV}{ds:List Nat}{rs:List AV}(e:j3 g b vs ds=some rs)(d:Nat)(hd:d ∈ ds):∃ v,eO d ds rs=some v∧g (aT b d vs)=some v:=by
 unfold j3 at e
 cases hz:cI g b ds vs with
 | none=>rw [hz] at e;exact jp e d hd
 | some xs=>
  rw [hz] at e
  have e:some xs=some rs:=e
  injection e with e;subst e
  exact tv hz d hd
omit H in
theorem liftTab_ok{f:Nat}{t:List AV→List Row}(hrows:∀ a,∀ r ∈ t a,∀ (ρ:Rho) (A:List Value) (w:World),RelL ρ r.args A→w0.w.heap.size≤w.heap.size→(∀ k,w0.F k→w.heap[k]?=w0.w.heap[k]?)→Calls P f ⟨A⟩ w fun e w'=>∃ ρ1 h1 V,e=.returned V∧Rel ρ1 r.val V∧Sim (Base.std w) ρ1 h1 w'):
  PrimOk P w0 f (liftTab t):=by
 intro ρ h w args A v h' hs hr he
 unfold liftTab at he
 cases hk:jA args with
 | none=>rw [hk] at he;cases he
 | some b=>
  rw [hk] at he
  obtain⟨L,hL⟩:=eS hr hk
  have he:FT h ((j3 (fun xs=>(c8 xs (t xs)).bind BB) b args (b9 (h.get b))).bind (nu b (b9 (h.get b))))=some (v,h'):=he
  cases hl:j3 (fun xs=>(c8 xs (t xs)).bind BB) b args (b9 (h.get b)) with
  | none=>rw [hl] at he;cases he
  | some vs=>
   rw [hl] at he
   have he:FT h (nu b (b9 (h.get b)) vs)=some (v,h'):=he
   cases hj:nu b (b9 (h.get b)) vs with
   | none=>rw [hj] at he;cases he
   | some u=>
    rw [hj] at he
    have he:some (u,h)=some (v,h'):=he
    injection he with he
    obtain⟨rfl,rfl⟩:=Prod.mk.inj he
    have hne:b9 (h.get b)≠[]:=by
     intro e
     rw [e] at hl hj
     have hl:some ([]:List AV)=some vs:=hl
     injection hl with hl;subst hl
     cases hj
    obtain⟨_,hm⟩:=dU hs hL hne
    obtain⟨x,hn,hx⟩:=BD hl _ hm
    cases hf:c8 (aT b L.base args) (t (aT b L.base args)) with
    | none=>rw [hf] at hx;cases hx
    | some r=>
     rw [hf] at hx
     have hx:some r.val=some x:=hx
     injection hx with hx;subst hx
     obtain⟨hmem,hargs⟩:=eA hf
     have hrel:=eC hL hr
     rw [←hargs] at hrel
     refine (hrows _ r hmem ρ A w hrel hs.size hs.old).mono ?_
     rintro e w' ⟨ρ1,h1,V,rfl,hv,hs1⟩
     obtain⟨hs',hsub,hkept⟩:=hs.frame (objs:=[]) hs1 (fun p hp=>by cases hp) (fun p hp=>by cases hp) (fun p hp=>by cases hp)
     exact⟨_,V,rfl,hsub,hkept,wh (hsub _ _ hL) hn hj hv,hs'⟩
end
end Go.VM
namespace Go.VM
section
variable {α β:Type}
def mo0(g:α→(α→β)→β)(k:N8 α→β)(a0 a1 a2 a3 a4 a5 a6 a7:α):β:=g a0 (fun y=>k ⟨y,a1,a2,a3,a4,a5,a6,a7⟩)
def mo1(g:α→(α→β)→β)(k:N8 α→β)(a0 a1 a2 a3 a4 a5 a6 a7:α):β:=g a1 (fun y=>k ⟨a0,y,a2,a3,a4,a5,a6,a7⟩)
def mo2(g:α→(α→β)→β)(k:N8 α→β)(a0 a1 a2 a3 a4 a5 a6 a7:α):β:=g a2 (fun y=>k ⟨a0,a1,y,a3,a4,a5,a6,a7⟩)
def mo3(g:α→(α→β)→β)(k:N8 α→β)(a0 a1 a2 a3 a4 a5 a6 a7:α):β:=g a3 (fun y=>k ⟨a0,a1,a2,y,a4,a5,a6,a7⟩)
def mo4(g:α→(α→β)→β)(k:N8 α→β)(a0 a1 a2 a3 a4 a5 a6 a7:α):β:=g a4 (fun y=>k ⟨a0,a1,a2,a3,y,a5,a6,a7⟩)
def mo5(g:α→(α→β)→β)(k:N8 α→β)(a0 a1 a2 a3 a4 a5 a6 a7:α):β:=g a5 (fun y=>k ⟨a0,a1,a2,a3,a4,y,a6,a7⟩)
def mo6(g:α→(α→β)→β)(k:N8 α→β)(a0 a1 a2 a3 a4 a5 a6 a7:α):β:=g a6 (fun y=>k ⟨a0,a1,a2,a3,a4,a5,y,a7⟩)
def mo7(g:α→(α→β)→β)(k:N8 α→β)(a0 a1 a2 a3 a4 a5 a6 a7:α):β:=g a7 (fun y=>k ⟨a0,a1,a2,a3,a4,a5,a6,y⟩)
def Ey(d:D8)(g:α→(α→β)→β)(x:N8 α)(k:N8 α→β):β:=N8.rec (motive:=fun _=>β) (fun a0 a1 a2 a3 a4 a5 a6 a7=>D8.rec (motive:=fun _=>β) (mo0 g k a0 a1 a2 a3 a4 a5 a6 a7) (mo1 g k a0 a1 a2 a3 a4 a5 a6 a7) (mo2 g k a0 a1 a2 a3 a4 a5 a6 a7) (mo3 g k a0 a1 a2 a3 a4 a5 a6 a7) (mo4 g k a0 a1 a2 a3 a4 a5 a6 a7) (mo5 g k a0 a1 a2 a3 a4 a5 a6 a7) (mo6 g k a0 a1 a2 a3 a4 a5 a6 a7) (mo7 g k a0 a1 a2 a3 a4 a5 a6 a7) d) x
theorem ny{g:α→(α→β)→β}{f:α→α}(hg:∀ a k,g a k=k (f a))(d:D8)(x:N8 α)(k:N8 α→β):Ey d g x k=k ((upd d).f f x):=by
 obtain⟨a0,a1,a2,a3,a4,a5,a6,a7⟩:=x
 cases d<;>(show g _ _=_;rw [hg];rfl)
def Kb(o:Option α)(_:Option α)(k:Option α→β):β:=k o
def FV(o:Option α)(a b c d e:D8)(t:RT5 α)(k:RT5 α→β):β:=Ey e (Ey d (Ey c (Ey b (Ey a (Kb o))))) t k
theorem zC(o:Option α)(a b c d e:D8)(t:RT5 α)(k:RT5 α→β):FV o a b c d e t k=k (RT.setD o a b c d e t):=
 ny (ny (ny (ny (ny (fun _ _=>rfl) a) b) c) d) e t k
end
section
variable {β:Type}
def FW(o:AObj)(b:Key)(h:Heap)(k:Heap→β):β:=Heap.rec (motive:=fun _=>β) (fun t n=>RT.rec (motive:=fun _=>β) (fun t=>Key.rec (motive:=fun _=>β) (fun a b c d e=>FV (some o) a b c d e t (fun t=>k ⟨⟨t⟩,n⟩)) b) t) h
theorem zD(o:AObj)(b:Key)(h:Heap)(k:Heap→β):FW o b h k=k (h.put b o):=by
 obtain⟨⟨t⟩,n⟩:=h
 obtain⟨a,b,c,d,e⟩:=b
 exact zC (some o) a b c d e t _
end
section
variable {P:Program} {w0:Base} {f:Nat} {rows:List MRow}
end
end Go.VM
namespace Go.VM
structure IndexAt (P:Program) (w0:Base) (f:Nat):Prop where
 at_:∀ (b off n c:Nat) (zs:List Bool) (x:Bool) (w:World),w0.w.heap.size≤w.heap.size→n≤zs.length→n≤9223372036854775807→(∀ j,j < zs.length→w.cell? ⟨b,off+j,none⟩=some (.bool zs[j]!))→
  Calls P f #[.slice (some ⟨b,off,none⟩) n c,.bool x] w fun e w'=>e=.returned (.int .i64 (Lib.idxBy (fun x y=>x == y) (zs.take n) x))∧w'=w
def CT(x:Bool):Nat→Nat→Nat→Option Nat
 | 0,_,_=>none
 | n+1,i,c=>cond (Bool.xor (cK c 0) x) (CT x n (Nat.succ i) (Nat.shiftRight c 1)) (some i)
def FY(o:Option Nat)(h:Heap):Option (AV × Heap):=match o with
 | some i=>ak i fun i=>some (.int .i64 (Int.ofNat i),h)
 | none=>none
def CU(x:Bool)(len:Nat)(h:Heap)(o:Option AObj):Option (AV × Heap):=match o with
 | some (.bits _ n c)=>cond (and (Nat.ble len n) (Nat.ble len 1000000)) (FY (CT x len 0 c) h) none
 | _=>none
def indexBits(args:List AV)(h:Heap):Option (AV × Heap):=match args with
 | [.slice b 0 len (.is _),.bool x]=>CU x len h (h.get b)
 | _=>none
def bZ:Nat→Nat→List Bool
 | 0,_=>[]
 | n+1,c=>cK c 0::bZ n (Nat.shiftRight c 1)
theorem jq:∀ n c:Nat,(bZ n c).length=n
 | 0,_=>rfl
 | n+1,c=>by simp [bZ,jq n]
theorem qd:∀ (n c i:Nat),i < n→(bZ n c)[i]?=some (cK c i)
 | 0,_,_,h=>absurd h (Nat.not_lt_zero _)
 | n+1,c,0,_=>rfl
 | n+1,c,i+1,h=>by
  show (bZ n (Nat.shiftRight c 1))[i]?=_
  rw [qd n _ i (by omega),rQ]
theorem nz:∀ (n m c:Nat),m≤n→(bZ n c).take m=bZ m c
 | n,0,c,_=>by simp [bZ]
 | 0,m+1,c,h=>absurd h (Nat.not_succ_le_zero _)
 | n+1,m+1,c,h=>by
  show cK c 0::(bZ n (Nat.shiftRight c 1)).take m=cK c 0::bZ m (Nat.shiftRight c 1)
  rw [nz n m _ (by omega)]
theorem zE(x:Bool):∀ (n i c k:Nat),CT x n i c=some k→Lib.idxByFrom (fun x y=>x == y) x (bZ n c) i=(k:Int)
 | 0,_,_,_,h=>by cases h
 | n+1,i,c,k,h=>by
  have h:cond (Bool.xor (cK c 0) x) (CT x n (Nat.succ i) (Nat.shiftRight c 1)) (some i)=some k:=h
  show (if (x == cK c 0)=true then (i:Int) else Lib.idxByFrom (fun x y=>x == y) x (bZ n (Nat.shiftRight c 1)) (i+1))=_
  cases hb:Bool.xor (cK c 0) x with
  | true=>
   rw [hb] at h
   have hne:(x == cK c 0)=false:=by revert hb;cases cK c 0<;>cases x<;>simp
   rw [hne,if_neg (by simp)]
   exact zE x n (i+1) _ k h
  | false=>
   rw [hb] at h
   have h:some i=some k:=h
   injection h with h;subst h
   have he:(x == cK c 0)=true:=by revert hb;cases cK c 0<;>cases x<;>simp
   rw [he,if_pos rfl]
theorem indexBits_ok{P:Program}{w0:Base}{f:Nat}(hc:IndexAt P w0 f):PrimOk P w0 f indexBits:=by
 intro ρ h w args A v h' hs hr he
 unfold indexBits at he
 split at he
 ·rename_i b len cp x
  cases hr with
  | cons _ V _ R hv hr=>
  cases hr with
  | cons _ X _ R hx hr=>
  cases hr
  cases hv with
  | sliceIs _ _ _ _ L hb=>
  cases hx
  unfold CU at he
  split at he
  ·rename_i e n c hg
   cases hle:and (Nat.ble len n) (Nat.ble len 1000000) with
   | false=>rw [hle] at he;cases he
   | true=>
    rw [hle,cond_true] at he
    simp only [Bool.and_eq_true] at hle
    have hmax:=Nat.le_of_ble_eq_true hle.2
    have hle:=Nat.le_of_ble_eq_true hle.1
    unfold FY at he
    split at he
    ·rename_i i hi
     rw [af] at he
     injection he with he;injection he with h1 h2;subst h1;subst h2
     obtain⟨o,ho,hlt,hobj⟩:=hs.obj b L hb
     rw [hg] at ho;cases ho
     obtain⟨_,C,q,hO,hsz,_,⟨_,hcr⟩,hbase,_⟩:=hobj
     obtain⟨hb0,htot⟩:=hbase rfl
     rw [hb0] at hcr
     have hcell:∀ j,j < (bZ len c).length→w.cell? ⟨L.B,0+j,none⟩=some (.bool (bZ len c)[j]!):=by
      intro j hj
      rw [jq] at hj
      obtain⟨V,hV,hrel⟩:=RelL.get? j hcr (dX n c j (by omega))
      cases hrel
      rw [List.drop_zero,List.getElem?_take,if_pos (by rw [ce];omega),Array.getElem?_toList] at hV
      have:(bZ len c)[j]! =cK c j:=by
       rw [List.getElem!_eq_getElem?_getD,qd len c j hj];rfl
      rw [this,Nat.zero_add]
      simp [World.cell?,hO,hV]
     have hcall:=hc.at_ L.B 0 len cp (bZ len c) x w hs.size (by rw [jq];exact Nat.le_refl _) (by omega) hcell
     have harr:(⟨[.slice (some ⟨L.B,L.base+0,none⟩) len cp,.bool x]⟩:Array Value)=#[.slice (some ⟨L.B,0,none⟩) len cp,.bool x]:=by rw [hb0]
     rw [harr]
     refine hcall.mono ?_
     rintro e w' ⟨rfl,rfl⟩
     refine⟨ρ,_,rfl,Sub.refl _,Kept.refl _ _,?_,hs⟩
     have hx:Lib.idxBy (fun x y=>x == y) ((bZ len c).take len) x=(i:Int):=by
      rw [nz len len c (Nat.le_refl _)]
      exact zE x len 0 c i hi
     rw [hx]
     exact .int .i64 _
    ·cases he
  ·cases he
 ·cases he
end Go.VM
namespace Go.VM
def sV(f:Key→Option Key):Nat→AV→AV→Bool
 | 0,_,_=>false
 | d+1,x,y=>match x with
  | .junk=>(match y with | .junk=>true | _=>false)
  | .ustr l=>(match y with | .ustr m=>Nat.beq l m | _=>false)
  | .bool a=>(match y with | .bool b=>a == b | _=>false)
  | .int k a=>(match y with | .int k' b=>cond (Nat.beq (aj k) (aj k')) (bO a b) false | _=>false)
  | .float .f64 a=>(match y with | .float .f64 b=>Nat.beq a b | _=>false)
  | .str l a=>(match y with | .str m b=>cond (Nat.beq l m) (Nat.beq a b) false | _=>false)
  | .nilPtr=>(match y with | .nilPtr=>true | _=>false)
  | .ptr a o=>(match y with | .ptr b q=>cond (isK (f a) b) (Nat.beq o q) false | _=>false)
  | .nilSlice=>(match y with | .nilSlice=>true | _=>false)
  | .emptyS=>(match y with | .emptyS=>true | _=>false)
  | .slice a o l c=>(match y with | .slice b q m e=>cond (isK (f a) b) (cond (Nat.beq o q) (cond (Nat.beq l m) (uu c e) false) false) false | _=>false)
  | .nilMap=>(match y with | .nilMap=>true | _=>false)
  | .map a=>(match y with | .map b=>isK (f a) b | _=>false)
  | .nilFunc=>(match y with | .nilFunc=>true | _=>false)
  | .nilIface=>(match y with | .nilIface=>true | _=>false)
  | .iface t a=>(match y with | .iface u b=>cond (Nat.beq t u) (sV f d a b) false | _=>false)
  | .func (.func g) a b=>(match y with | .func (.func g') x' y'=>cond (Nat.beq g g') (cond (mLs (sV f d) a x') (mLs (sV f d) b y') false) false | _=>false)
  | .agg a=>(match y with | .agg b=>mLs (sV f d) a b | _=>false)
  | .tup a=>(match y with | .tup b=>mLs (sV f d) a b | _=>false)
  | .undef=>(match y with | .undef=>true | _=>false)
  | .tab a ds vs=>(match y with | .tab b es us=>cond (isK (f a) b) (cond (x8 ds es) (Bw vs us) false) false | _=>false)
  | _=>false
def sEs(f:Key→Option Key):List (AV × AV × Nat)→List (AV × AV × Nat)→Bool
 | [],[]=>true
 | a::x,b::y=>cond (sV f 20 a.1 b.1) (cond (sV f 20 a.2.1 b.2.1) (cond (Nat.beq a.2.2 b.2.2) (sEs f x y) false) false) false
 | _,_=>false
def sE2(f:Key→Option Key):List (AV × AV)→List (AV × AV)→Bool
 | [],[]=>true
 | a::x,b::y=>cond (sV f 20 a.1 b.1) (cond (sV f 20 a.2 b.2) (sE2 f x y) false) false
 | _,_=>false
def sVs(f:Key→Option Key):List (List (AV × AV × Nat) × Nat)→List (List (AV × AV × Nat) × Nat)→Bool
 | [],[]=>true
 | a::x,b::y=>cond (Nat.beq a.2 b.2) (cond (sEs f a.1 b.1) (sVs f x y) false) false
 | _,_=>false
def sO(f:Key→Option Key)(o' o:AObj):Bool:=match o' with
 | .cells e cs opn fz=>(match o with | .cells e2 cs2 opn2 fz2=>cond (Nat.beq e e2) (cond (HC opn opn2) (cond (Nat.beq fz fz2) (mLs (sV f 20) cs cs2) false) false) false | _=>false)
 | .map es c=>(match o with | .map es2 c2=>cond (Nat.beq c c2) (sEs f es es2) false | _=>false)
 | .lmap es=>(match o with | .lmap es2=>sE2 f es es2 | _=>false)
 | .mapAlt vs=>(match o with | .mapAlt vs2=>sVs f vs vs2 | _=>false)
 | .bits e n c=>(match o with | .bits e2 n2 c2=>cond (Nat.beq e e2) (cond (Nat.beq n n2) (Nat.beq c c2) false) false | _=>false)
 | .bytes e n=>(match o with | .bytes e2 n2=>cond (Nat.beq e e2) (Nat.beq n n2) false | _=>false)
 | .pack e n t=>(match o with | .pack e2 n2 t2=>cond (Nat.beq e e2) (cond (Nat.beq n n2) (Jg t t2) false) false | _=>false)
 | _=>false
def rL(g:AV→AV):List AV→List AV
 | []=>[]
 | v::r=>g v::rL g r
def rV(t:Key→Key):Nat→AV→AV
 | 0,_=>.junk
 | d+1,v=>match v with
  | .ustr l=>.ustr l
  | .bool a=>.bool a
  | .int k a=>.int k a
  | .float .f64 a=>.float .f64 a
  | .str l a=>.str l a
  | .nilPtr=>.nilPtr
  | .ptr a o=>.ptr (t a) o
  | .nilSlice=>.nilSlice
  | .emptyS=>.emptyS
  | .slice a o l c=>.slice (t a) o l c
  | .nilMap=>.nilMap
  | .map a=>.map (t a)
  | .nilFunc=>.nilFunc
  | .nilIface=>.nilIface
  | .iface u a=>.iface u (rV t d a)
  | .func (.func g) a b=>.func (.func g) (rL (rV t d) a) (rL (rV t d) b)
  | .agg a=>.agg (rL (rV t d) a)
  | .tup a=>.tup (rL (rV t d) a)
  | .undef=>.undef
  | .tab b ds vs=>.tab (t b) ds vs
  | _=>.junk
def rEs(t:Key→Key):List (AV × AV × Nat)→List (AV × AV × Nat)
 | []=>[]
 | a::x=>(rV t 20 a.1,rV t 20 a.2.1,a.2.2)::rEs t x
def rE2(t:Key→Key):List (AV × AV)→List (AV × AV)
 | []=>[]
 | a::x=>(rV t 20 a.1,rV t 20 a.2)::rE2 t x
def rVs(t:Key→Key):List (List (AV × AV × Nat) × Nat)→List (List (AV × AV × Nat) × Nat)
 | []=>[]
 | a::x=>(rEs t a.1,a.2)::rVs t x
def rO(t:Key→Key)(o:AObj):AObj:=match o with
 | .cells e cs opn fz=>.cells e (rL (rV t 20) cs) opn fz
 | .map es c=>.map (rEs t es) c
 | .lmap es=>.lmap (rE2 t es)
 | .mapAlt vs=>.mapAlt (rVs t vs)
 | .bits e n c=>.bits e n c
 | .bytes e n=>.bytes e n
 | .pack e n t=>.pack e n t
 | _=>.dead
section
variable {f:Key→Option Key} {t:Key→Key} {ρ ρ':Rho}
theorem xh{g:AV→AV}:∀ {x:List AV},(rL g x).length=x.length
 | []=>rfl
 | _::x=>by show (rL g x).length+1=_;rw [xh];rfl
theorem BE{g:AV→AV→Bool}{q:AV→AV}(hg:∀ x y,g x y=true→y=q x):∀ {x y:List AV},mLs g x y=true→y=rL q x
 | [],[],_=>rfl
 | a::x,b::y,h=>by
  unfold mLs at h
  obtain⟨h1,h2⟩:=ad h
  show b::y=q a::rL q x
  rw [←hg a b h1,←BE hg h2]
 | [],_::_,h=>by cases h
 | _::_,[],h=>by cases h
theorem wi(ht:∀ a b,f a=some b→t a=b):∀ (d:Nat) (x y:AV),sV f d x y=true→y=rV t d x
 | 0,_,_,h=>by cases h
 | d+1,x,y,h=>by
  have ih:=wi ht d
  have hl:∀ {x y:List AV},mLs (sV f d) x y=true→y=rL (rV t d) x:=fun h=>BE ih h
  unfold sV at h
  split at h
  ·split at h<;>first | rfl | cases h
  ·split at h
   ·rw [Nat.eq_of_beq_eq_true h];rfl
   ·cases h
  ·split at h
   ·obtain rfl:_=_:=by simpa using h
    rfl
   ·cases h
  ·split at h
   ·obtain⟨h1,h2⟩:=ad h
    rw [ap h1,(aX _ _).1 h2];rfl
   ·cases h
  ·split at h
   ·rw [Nat.eq_of_beq_eq_true h];rfl
   ·cases h
  ·split at h
   ·obtain⟨h1,h2⟩:=ad h
    rw [Nat.eq_of_beq_eq_true h1,Nat.eq_of_beq_eq_true h2];rfl
   ·cases h
  ·split at h<;>first | rfl | cases h
  ·split at h
   ·obtain⟨h1,h2⟩:=ad h
    rw [Nat.eq_of_beq_eq_true h2,←ht _ _ (dH h1)];rfl
   ·cases h
  ·split at h<;>first | rfl | cases h
  ·split at h<;>first | rfl | cases h
  ·split at h
   ·obtain⟨h1,h⟩:=ad h
    obtain⟨h2,h⟩:=ad h
    obtain⟨h3,h4⟩:=ad h
    rw [Nat.eq_of_beq_eq_true h2,Nat.eq_of_beq_eq_true h3,kJ h4,←ht _ _ (dH h1)];rfl
   ·cases h
  ·split at h<;>first | rfl | cases h
  ·split at h
   ·rw [←ht _ _ (dH h)];rfl
   ·cases h
  ·split at h<;>first | rfl | cases h
  ·split at h<;>first | rfl | cases h
  ·split at h
   ·obtain⟨h1,h2⟩:=ad h
    rw [Nat.eq_of_beq_eq_true h1,ih _ _ h2];rfl
   ·cases h
  ·split at h
   ·obtain⟨h1,h⟩:=ad h
    obtain⟨h2,h3⟩:=ad h
    rw [Nat.eq_of_beq_eq_true h1,hl h2,hl h3];rfl
   ·cases h
  ·split at h
   ·rw [hl h];rfl
   ·cases h
  ·split at h
   ·rw [hl h];rfl
   ·cases h
  ·split at h<;>first | rfl | cases h
  ·split at h
   ·obtain⟨h1,h⟩:=ad h
    obtain⟨h2,h3⟩:=ad h
    rw [ni h2,qI h3,←ht _ _ (dH h1)];rfl
   ·cases h
  ·cases h
theorem BF(ht:∀ a b,f a=some b→t a=b):∀ {x y:List (AV × AV × Nat)},sEs f x y=true→y=rEs t x
 | [],[],_=>rfl
 | (k,v,c)::x,(k',v',c')::y,h=>by
  unfold sEs at h
  obtain⟨h1,h⟩:=ad h
  obtain⟨h2,h⟩:=ad h
  obtain⟨h3,h4⟩:=ad h
  have h3:c=c':=Nat.eq_of_beq_eq_true h3
  show (k',v',c')::y=(rV t 20 k,rV t 20 v,c)::rEs t x
  rw [←wi ht 20 k k' h1,←wi ht 20 v v' h2,←BF ht h4,h3]
 | [],_::_,h=>by cases h
 | _::_,[],h=>by cases h
theorem FZ(ht:∀ a b,f a=some b→t a=b):∀ {x y:List (AV × AV)},sE2 f x y=true→y=rE2 t x
 | [],[],_=>rfl
 | (k,v)::x,(k',v')::y,h=>by
  unfold sE2 at h
  obtain⟨h1,h⟩:=ad h
  obtain⟨h2,h4⟩:=ad h
  show (k',v')::y=(rV t 20 k,rV t 20 v)::rE2 t x
  rw [←wi ht 20 k k' h1,←wi ht 20 v v' h2,←FZ ht h4]
 | [],_::_,h=>by cases h
 | _::_,[],h=>by cases h
theorem G0(ht:∀ a b,f a=some b→t a=b):∀ {x y:List (List (AV × AV × Nat) × Nat)},sVs f x y=true→y=rVs t x
 | [],[],_=>rfl
 | (k,c)::x,(k',c')::y,h=>by
  unfold sVs at h
  obtain⟨h1,h⟩:=ad h
  obtain⟨h2,h4⟩:=ad h
  have h1:c=c':=Nat.eq_of_beq_eq_true h1
  show (k',c')::y=(rEs t k,c)::rVs t x
  rw [←BF ht (show sEs f k k'=true from h2),←G0 ht h4,h1]
 | [],_::_,h=>by cases h
 | _::_,[],h=>by cases h
theorem Kc(ht:∀ a b,f a=some b→t a=b){o' o:AObj}(h:sO f o' o=true):o=rO t o':=by
 unfold sO at h
 split at h
 ·split at h
  ·obtain⟨h1,h⟩:=ad h
   obtain⟨h2,h⟩:=ad h
   obtain⟨h3,h4⟩:=ad h
   rw [Nat.eq_of_beq_eq_true h1,qE h2,Nat.eq_of_beq_eq_true h3,BE (wi ht 20) h4];rfl
  ·cases h
 ·split at h
  ·obtain⟨h1,h2⟩:=ad h
   rw [Nat.eq_of_beq_eq_true h1,BF ht h2];rfl
  ·cases h
 ·split at h
  ·rw [FZ ht h];rfl
  ·cases h
 ·split at h
  ·rw [G0 ht h];rfl
  ·cases h
 ·split at h
  ·obtain⟨h1,h⟩:=ad h
   obtain⟨h2,h3⟩:=ad h
   rw [Nat.eq_of_beq_eq_true h1,Nat.eq_of_beq_eq_true h2,Nat.eq_of_beq_eq_true h3];rfl
  ·cases h
 ·split at h
  ·obtain⟨h1,h2⟩:=ad h
   rw [Nat.eq_of_beq_eq_true h1,Nat.eq_of_beq_eq_true h2];rfl
  ·cases h
 ·split at h
  ·obtain⟨h1,h⟩:=ad h
   obtain⟨h2,h3⟩:=ad h
   rw [Nat.eq_of_beq_eq_true h1,Nat.eq_of_beq_eq_true h2,x9 h3];rfl
  ·cases h
 ·cases h
theorem CV{o' o:AObj}(h:sO f o' o=true):dB o'=true∧dB o=true:=by
 unfold sO at h
 split at h
 all_goals first | (split at h<;>first | exact⟨rfl,rfl⟩ | cases h) | cases h
theorem jr(hf:∀ a b L,f a=some b→ρ b=some L→ρ' a=some L):∀ (d:Nat) (x y:AV) (V:Value),sV f d x y=true→Rel ρ y V→Rel ρ' x V
 | 0,_,_,_,h,_=>by cases h
 | d+1,x,y,V,h,hr=>by
  have ih:=jr hf d
  unfold sV at h
  split at h
  ·exact .junk V
  ·split at h
   ·obtain rfl:=Nat.eq_of_beq_eq_true h
    cases hr with | ustr l s hl=>exact .ustr _ s hl
   ·cases h
  ·split at h
   ·obtain rfl:_=_:=by simpa using h
    cases hr;exact .bool _
   ·cases h
  ·split at h
   ·obtain⟨h1,h2⟩:=ad h
    obtain rfl:=ap h1
    obtain rfl:=(aX _ _).1 h2
    cases hr;exact .int _ _
   ·cases h
  ·split at h
   ·obtain rfl:=Nat.eq_of_beq_eq_true h
    cases hr;exact .float _ _
   ·cases h
  ·split at h
   ·obtain⟨h1,h2⟩:=ad h
    obtain rfl:=Nat.eq_of_beq_eq_true h1
    obtain rfl:=Nat.eq_of_beq_eq_true h2
    cases hr with | str _ _ hc=>exact .str _ _ hc
   ·cases h
  ·split at h
   ·cases hr;exact .nilPtr
   ·cases h
  ·split at h
   ·obtain⟨h1,h2⟩:=ad h
    obtain rfl:=Nat.eq_of_beq_eq_true h2
    cases hr with | ptr _ _ L hb=>exact .ptr _ _ L (hf _ _ L (dH h1) hb)
   ·cases h
  ·split at h
   ·cases hr;exact .nilSlice
   ·cases h
  ·split at h
   ·cases hr;exact .emptyS _ _
   ·cases h
  ·split at h
   ·obtain⟨h1,h⟩:=ad h
    obtain⟨h2,h⟩:=ad h
    obtain⟨h3,h4⟩:=ad h
    obtain rfl:=Nat.eq_of_beq_eq_true h2
    obtain rfl:=Nat.eq_of_beq_eq_true h3
    obtain rfl:=kJ h4
    cases hr with
    | sliceIs _ _ _ c L hb=>exact .sliceIs _ _ _ c L (hf _ _ L (dH h1) hb)
    | sliceMore _ _ _ c sz L hb hc ht=>exact .sliceMore _ _ _ c sz L (hf _ _ L (dH h1) hb) hc ht
   ·cases h
  ·split at h
   ·cases hr;exact .nilMap
   ·cases h
  ·split at h
   ·cases hr with | map _ L hb=>exact .map _ L (hf _ _ L (dH h) hb)
   ·cases h
  ·split at h
   ·cases hr;exact .nilFunc
   ·cases h
  ·split at h
   ·cases hr;exact .nilIface
   ·cases h
  ·split at h
   ·obtain⟨h1,h2⟩:=ad h
    obtain rfl:=Nat.eq_of_beq_eq_true h1
    cases hr with | iface t v W hv=>exact .iface _ _ W (ih _ _ W h2 hv)
   ·cases h
  ·split at h
   ·obtain⟨h1,h⟩:=ad h
    obtain⟨h2,h3⟩:=ad h
    obtain rfl:=Nat.eq_of_beq_eq_true h1
    cases hr with | func _ _ _ A B ha hb=>exact .func _ _ _ A B (dI ih h2 ha) (dI ih h3 hb)
   ·cases h
  ·split at h
   ·cases hr with | agg _ A ha=>exact .agg _ A (dI ih h ha)
   ·cases h
  ·split at h
   ·cases hr with
    | tup _ A ha=>exact .tup _ A (dI ih h ha)
   ·cases h
  ·split at h
   ·cases hr;exact .undef
   ·cases h
  ·split at h
   ·obtain⟨h1,h⟩:=ad h
    obtain⟨h2,h3⟩:=ad h
    obtain rfl:=ni h2
    obtain rfl:=qI h3
    cases hr with | tab _ _ _ L V hb hp hr=>exact .tab _ _ _ L V (hf _ _ L (dH h1) hb) hp (hr.of_plain hp)
   ·cases h
  ·cases h
theorem xi(hf:∀ a b L,f a=some b→ρ b=some L→ρ' a=some L):∀ {x y:List (AV × AV × Nat)} {E:List MapEntry},sEs f x y=true→ERel ρ y E→ERel ρ' x E
 | [],[],_,_,h=>by cases h;exact .nil
 | (k,v,c)::x,(k',v',c')::y,_,hm,h=>by
  unfold sEs at hm
  obtain⟨h1,hm⟩:=ad hm
  obtain⟨h2,hm⟩:=ad hm
  obtain⟨h3,hm⟩:=ad hm
  have h3:c=c':=Nat.eq_of_beq_eq_true h3
  have hm2:sEs f x y=true:=hm
  subst h3
  cases h with
  | cons _ _ K V _ _ R hk hv hr=>exact .cons k v K V c x R (jr hf 20 _ _ _ h1 hk) (jr hf 20 _ _ _ h2 hv) (xi hf hm2 hr)
 | [],_::_,_,h,_=>by cases h
 | _::_,[],_,h,_=>by cases h
theorem G1:∀ {x y:List (AV × AV)},sE2 f x y=true→F2 (fun a b=>sV f 20 a.1 b.1=true∧sV f 20 a.2 b.2=true) x y
 | [],[],_=>.nil
 | a::x,b::y,h=>by
  unfold sE2 at h
  obtain⟨h1,h⟩:=ad h
  obtain⟨h2,h⟩:=ad h
  exact .cons ⟨h1,h2⟩ (G1 h)
 | [],_::_,h=>by cases h
 | _::_,[],h=>by cases h
theorem F2s.erel(hf:∀ a b L,f a=some b→ρ b=some L→ρ' a=some L):∀ {es1:List (AV × AV)} {esa:List (AV × AV × Nat)} {E:List MapEntry},F2 (fun a b=>sV f 20 a.1 b.1=true∧sV f 20 a.2 b.2=true) es1 (esa.map strip)→ERel ρ esa E→∃ es2:List (AV × AV × Nat),es2.map strip=es1∧ERel ρ' es2 E
 | es1,[],_,h2,he=>by cases he;cases h2;exact⟨[],rfl,.nil⟩
 | es1,(k,v,c)::r,_,h2,he=>by
  cases he with
  | cons _ _ K V _ _ R hk hv hr=>
   cases h2 with
   | @cons a _ x _ hm h2=>
    obtain⟨es2,h3,h4⟩:=F2s.erel hf h2 hr
    obtain⟨k',v'⟩:=a
    exact⟨(k',v',c)::es2,by rw [List.map_cons,h3];rfl,.cons k' v' K V c es2 R (jr hf 20 _ _ _ hm.1 hk) (jr hf 20 _ _ _ hm.2 hv) h4⟩
theorem HW(hf:∀ a b L,f a=some b→ρ b=some L→ρ' a=some L){x y:List (AV × AV)}{E:List MapEntry}(hm:sE2 f x y=true)(h:LRel ρ y E):LRel ρ' x E:=by
 obtain⟨esa,hp,he⟩:=h
 obtain⟨es1,hq,h3⟩:=F2.perm hp (G1 hm)
 obtain⟨es2,h4,h5⟩:=F2s.erel hf h3 he
 exact⟨es2,by show (es2.map strip).Perm x;rw [h4];exact hq,h5⟩
theorem CW:∀ {x y:List (List (AV × AV × Nat) × Nat)},sVs f x y=true→∀ v ∈ y,∃ u ∈ x,u.2=v.2∧sEs f u.1 v.1=true
 | [],[],_,v,hv=>by cases hv
 | a::x,b::y,h,v,hv=>by
  unfold sVs at h
  obtain⟨h1,h⟩:=ad h
  obtain⟨h2,h3⟩:=ad h
  cases hv with
  | head=>exact⟨a,List.mem_cons_self ..,Nat.eq_of_beq_eq_true h1,h2⟩
  | tail _ hv=>
   obtain⟨u,hu,q⟩:=CW h3 v hv
   exact⟨u,List.mem_cons_of_mem _ hu,q⟩
 | [],_::_,h,_,_=>by cases h
 | _::_,[],h,_,_=>by cases h
theorem Jj(hf:∀ a b L,f a=some b→ρ b=some L→ρ' a=some L){N:Nat→Prop}{L:Loc}{O:Option Obj}{o' o:AObj}(hm:sO f o' o=true)(h:ObjRel N ρ L O o):ObjRel N ρ' L O o':=by
 unfold sO at hm
 split at hm
 ·split at hm
  ·obtain⟨h1,q1⟩:=ad hm
   obtain⟨h2,q2⟩:=ad q1
   obtain⟨h3,q3⟩:=ad q2
   obtain rfl:=Nat.eq_of_beq_eq_true h1
   obtain rfl:=qE h2
   obtain rfl:=Nat.eq_of_beq_eq_true h3
   have hl:=qJ q3
   obtain⟨a,C,q,e1,e2,e3,⟨e4,e5⟩,e6,e7⟩:=h
   exact⟨a,C,q,e1,e2,e3,⟨by rw [hl];exact e4,by rw [hl];exact dI (jr hf 20) q3 e5⟩,fun x=>by rw [hl];exact e6 x,e7⟩
  ·cases hm
 ·split at hm
  ·obtain⟨h1,q1⟩:=ad hm
   obtain rfl:=Nat.eq_of_beq_eq_true h1
   obtain⟨a,E,e1,e2⟩:=h
   exact⟨a,E,e1,xi hf q1 e2⟩
  ·cases hm
 ·split at hm
  ·obtain⟨a,E,c,e1,e2,e3⟩:=h
   exact⟨a,E,c,e1,HW hf hm e2,e3⟩
  ·cases hm
 ·split at hm
  ·obtain⟨a,v,hv,E,e1,e2⟩:=h
   obtain⟨u,hu,h1,h2⟩:=CW hm v hv
   exact⟨a,u,hu,E,by rw [h1];exact e1,xi hf h2 e2⟩
  ·cases hm
 ·split at hm
  ·obtain⟨h1,q1⟩:=ad hm
   obtain⟨h2,h3⟩:=ad q1
   obtain rfl:=Nat.eq_of_beq_eq_true h1
   obtain rfl:=Nat.eq_of_beq_eq_true h2
   obtain rfl:=Nat.eq_of_beq_eq_true h3
   obtain⟨a,C,q,e1,f1,g1,k1,i1,j1⟩:=h
   exact⟨a,C,q,e1,f1,g1,⟨k1.1,jf k1.2⟩,i1,j1⟩
  ·cases hm
 ·split at hm
  ·obtain⟨h1,h2⟩:=ad hm
   obtain rfl:=Nat.eq_of_beq_eq_true h1
   obtain rfl:=Nat.eq_of_beq_eq_true h2
   exact h
  ·cases hm
 ·split at hm
  ·obtain⟨h1,q1⟩:=ad hm
   obtain⟨h2,h3⟩:=ad q1
   obtain rfl:=Nat.eq_of_beq_eq_true h1
   obtain rfl:=Nat.eq_of_beq_eq_true h2
   obtain rfl:=x9 h3
   obtain⟨a,C,q,e1,f1,g1,k1,i1,j1⟩:=h
   exact⟨a,C,q,e1,f1,g1,⟨k1.1,di k1.2⟩,i1,j1⟩
  ·cases hm
 ·cases hm
theorem p8{g:AV→AV}(hg:∀ v V,Rel ρ v V→Rel ρ' (g v) V):∀ {x:List AV} {X:List Value},RelL ρ x X→RelL ρ' (rL g x) X
 | _,_,.nil=>.nil
 | _,_,.cons v V r R h hr=>.cons (g v) V (rL g r) R (hg v V h) (p8 hg hr)
theorem tz(ht:∀ b L,ρ b=some L→ρ' (t b)=some L):∀ (d:Nat) (v:AV) (V:Value),Rel ρ v V→Rel ρ' (rV t d v) V
 | 0,_,V,_=>.junk V
 | d+1,v,V,h=>by
  have ih:=tz ht d
  cases h with
  | bool b=>exact .bool b
  | int k n=>exact .int k n
  | float k b=>cases k<;>first | exact .float _ b | exact .junk _
  | str l c h=>exact .str l c h
  | nilPtr=>exact .nilPtr
  | ptr b off L h=>exact .ptr _ off L (ht _ _ h)
  | nilSlice=>exact .nilSlice
  | emptyS a c=>exact .emptyS a c
  | sliceIs b o l c L h=>exact .sliceIs _ o l c L (ht _ _ h)
  | sliceMore b o l c sz L h hc h2=>exact .sliceMore _ o l c sz L (ht _ _ h) hc h2
  | nilMap=>exact .nilMap
  | map b L h=>exact .map _ L (ht _ _ h)
  | func f a b A B ha hb=>exact .func f _ _ A B (p8 ih ha) (p8 ih hb)
  | nilFunc=>exact .nilFunc
  | iface u v V h=>exact .iface u _ V (ih v V h)
  | nilIface=>exact .nilIface
  | agg a A h=>exact .agg _ A (p8 ih h)
  | tup a A h=>exact .tup _ A (p8 ih h)
  | undef=>exact .undef
  | ustr l s h=>exact .ustr l s h
  | tab b ds vs L V hb hp hr=>exact .tab _ ds vs L V (ht _ _ hb) hp (hr.of_plain hp)
  | _=>exact .junk _
theorem qK(ht:∀ b L,ρ b=some L→ρ' (t b)=some L):∀ {x:List (AV × AV × Nat)} {E:List MapEntry},ERel ρ x E→ERel ρ' (rEs t x) E
 | _,_,.nil=>.nil
 | _,_,.cons k v K V c r R hk hv hr=>.cons _ _ K V c _ R (tz ht 20 k K hk) (tz ht 20 v V hv) (qK ht hr)
theorem CX:∀ {x:List (AV × AV)},rE2 t x=x.map fun a=>(rV t 20 a.1,rV t 20 a.2)
 | []=>rfl
 | a::x=>by rw [List.map_cons,←CX];rfl
theorem CY:∀ {x:List (AV × AV × Nat)},(rEs t x).map strip=(x.map strip).map fun a=>(rV t 20 a.1,rV t 20 a.2)
 | []=>rfl
 | a::x=>by
  show strip (rV t 20 a.1,rV t 20 a.2.1,a.2.2)::(rEs t x).map strip=_
  rw [CY];rfl
theorem HX(ht:∀ b L,ρ b=some L→ρ' (t b)=some L){x:List (AV × AV)}{E:List MapEntry}(h:LRel ρ x E):LRel ρ' (rE2 t x) E:=by
 obtain⟨es,hp,he⟩:=h
 refine⟨rEs t es,?_,qK ht he⟩
 show ((rEs t es).map strip).Perm (rE2 t x)
 rw [CY,CX]
 exact List.Perm.map _ hp
theorem CZ:∀ {x:List (List (AV × AV × Nat) × Nat)} {v:List (AV × AV × Nat) × Nat},v ∈ x→(rEs t v.1,v.2) ∈ rVs t x
 | _::_,_,.head _=>List.mem_cons_self ..
 | _::_,_,.tail _ h=>List.mem_cons_of_mem _ (CZ h)
theorem Jk(ht:∀ b L,ρ b=some L→ρ' (t b)=some L){N:Nat→Prop}{L:Loc}{O:Option Obj}{o:AObj}(h:ObjRel N ρ L O o):ObjRel N ρ' L O (rO t o):=by
 cases o with
 | cells e cs a b=>
  obtain⟨q1,C,q,e1,e2,e3,⟨e4,e5⟩,e6,e7⟩:=h
  exact⟨q1,C,q,e1,e2,e3,⟨by rw [xh];exact e4,by rw [xh];exact p8 (tz ht 20) e5⟩,fun x=>by rw [xh];exact e6 x,e7⟩
 | map es c=>obtain⟨a,E,e1,e2⟩:=h;exact⟨a,E,e1,qK ht e2⟩
 | lmap es=>obtain⟨a,E,c,e1,e2,e3⟩:=h;exact⟨a,E,c,e1,HX ht e2,e3⟩
 | mapAlt vs=>obtain⟨a,v,hv,E,e1,e2⟩:=h;exact⟨a,_,CZ hv,E,e1,qK ht e2⟩
 | bits e n c=>
  obtain⟨a,C,q,e1,f1,g1,k1,i1,j1⟩:=h
  exact⟨a,C,q,e1,f1,g1,⟨k1.1,jf k1.2⟩,i1,j1⟩
 | bytes e n=>exact h
 | pack e n t=>
  obtain⟨a,C,q,e1,f1,g1,k1,i1,j1⟩:=h
  exact⟨a,C,q,e1,f1,g1,⟨k1.1,di k1.2⟩,i1,j1⟩
 | _=>trivial
theorem nA{o:AObj}(h:(rO t o).live=true):dB o=true:=by
 cases o<;>first | rfl | cases h
end
section
variable {β:Type}
def qe{α:Type}(o:α)(b:Key)(t:RT α)(k:RT α→β):β:=RT.rec (motive:=fun _=>β) (fun t=>Key.rec (motive:=fun _=>β) (fun a b c d e=>FV (some o) a b c d e t (fun t=>k ⟨t⟩)) b) t
theorem zF{α:Type}(o:α)(b:Key)(t:RT α)(k:RT α→β):qe o b t k=k (t.set o b):=by
 obtain⟨t⟩:=t
 obtain⟨a,b,c,d,e⟩:=b
 exact zC (some o) a b c d e t _
def xj:List (Key × Key)→RT Key→(RT Key→β)→β
 | [],σ,k=>k σ
 | p::r,σ,k=>match σ.get p.1 with
  | some _=>xj r σ k
  | none=>qe p.2 p.1 σ (fun σ=>xj r σ k)
def tA:List (Key × Key)→RT Key→RT Key
 | [],σ=>σ
 | p::r,σ=>match σ.get p.1 with
  | some _=>tA r σ
  | none=>tA r (σ.set p.2 p.1)
theorem kL:∀ (l:List (Key × Key)) (σ:RT Key) (k:RT Key→β),xj l σ k=k (tA l σ)
 | [],_,_=>rfl
 | p::r,σ,k=>by
  unfold xj tA
  cases σ.get p.1 with
  | some _=>exact kL r σ k
  | none=>
   show qe p.2 p.1 σ (fun σ=>xj r σ k)=_
   rw [zF,kL r]
end
def tB(σ σ':RT Key):Prop:=∀ a b,σ.get a=some b→σ'.get a=some b
theorem jt:∀ (l:List (Key × Key)) (σ:RT Key),tB σ (tA l σ)
 | [],_=>fun _ _ h=>h
 | p::r,σ=>fun a b h=>by
  unfold tA
  cases hp:σ.get p.1 with
  | some _=>exact jt r σ a b h
  | none=>
   refine jt r _ a b ?_
   rw [RT.get_set_other _ _ _ _ (fun e=>by rw [←e,hp] at h;cases h)];exact h
def tC(o:AObj):Bool:=match o with
 | .dead=>true
 | _=>false
theorem wj{o:AObj}(h:tC o=true):o=.dead:=by cases o<;>first | rfl | cases h
def ju(o:AObj):Bool:=match o with
 | .dom _=>true
 | _=>false
def wk(o' o:AObj):Bool:=match o' with
 | .dom ds=>(match o with | .dom es=>cond (x8 es ds) true (Ev es ds) | _=>false)
 | _=>false
theorem Ez{o' o:AObj}(h:wk o' o=true):ju o'=true∧ju o=true:=by
 unfold wk at h
 split at h
 ·split at h
  ·exact⟨rfl,rfl⟩
  ·cases h
 ·cases h
theorem G2{N:Nat→Prop}{ρ ρ':Rho}{L:Loc}{O:Option Obj}{o' o:AObj}(hm:wk o' o=true)(h:ObjRel N ρ L O o):ObjRel N ρ' L O o':=by
 cases o'<;>try (cases hm;done)
 rename_i ds
 cases o<;>try (cases hm;done)
 rename_i es
 have hm:cond (x8 es ds) true (Ev es ds)=true:=hm
 cases hb:x8 es ds with
 | true=>rw [←ni hb];exact h
 | false=>rw [hb] at hm;exact ti hm _ h
def sOD(σ:RT Key)(o' o:AObj):Bool:=cond (tC o') true (cond (wk o' o) true (sO σ.get o' o))
def xl(h:Heap)(k:RT Key→Option (AV × Heap)):List (Key × AObj)→RT Key→Option (AV × Heap)
 | [],σ=>k σ
 | p::r,σ=>match σ.get p.1 with
  | none=>none
  | some b=>match h.get b with
   | none=>none
   | some o=>xj (HU p.2 o) σ (fun σ=>cond (sOD σ p.2 o) (xl h k r σ) none)
def p9(preT:RT AObj)(k:RT Key→Heap→Option (AV × Heap)):List (Key × AObj)→RT Key→Heap→Option (AV × Heap)
 | [],τ,h=>k τ h
 | p::r,τ,h=>match preT.get p.1 with
  | some _=>p9 preT k r τ h
  | none=>match τ.get p.1 with
   | some _=>none
   | none=>match h.get h.next with
    | some _=>none
    | none=>qe h.next p.1 τ (fun τ=>FW .dead h.next h (fun h=>p9 preT k r τ ⟨h.t,bV h.next⟩))
def tK(τ:RT Key)(a:Key):Key:=match τ.get a with
 | some b=>b
 | none=>a
def HY(τ:RT Key)(k:Heap→Option (AV × Heap)):List (Key × AObj)→Heap→Option (AV × Heap)
 | [],h=>k h
 | p::r,h=>FW (rO (tK τ) p.2) (tK τ p.1) h (fun h=>HY τ k r h)
def IF(r:MRow)(τ:RT Key)(h:Heap):Option (AV × Heap):=HY τ (fun h=>some (rV (tK τ) 20 r.val,h)) r.post h
def G3(r:MRow)(h:Heap)(σ:RT Key):Option (AV × Heap):=cond (xe σ RT.nil r.pre RT.nil) (p9 r.preT (IF r) r.post σ h) none
def tD(r:MRow)(args:List AV)(h:Heap):Option (AV × Heap):=xj (qx (jl 20) r.args args) RT.nil (fun σ=>cond (mLs (sV σ.get 20) r.args args) (xl h (G3 r h) r.pre σ) none)
def mrowX(args:List AV)(h:Heap):List MRow→Option (AV × Heap)
 | []=>none
 | r::rs=>match tD r args h with
  | some x=>some x
  | none=>mrowX args h rs
def tE(S:Key→Bool)(st:RT AObj):List (Key × AObj)→Bool
 | []=>true
 | p::r=>cond (lq S p.2) (cond (or (tC p.2) (or (ju p.2) (dB p.2))) (cond (v8 (st.get p.1)) false (tE S st r)) false) false
def MRow.okX(P:Program)(laid:List (Nat × AObj))(r:MRow):Bool:=
 cond (cu (e9 (inT r.preT) 20) r.args) (cond (tE (inT r.preT) (startT laid P.globals.size) r.pre) (cond (lX r.pre RT.nil) (nl r.pre (zw (ksL (ksV 20) r.args) RT.nil)) false) false) false
end Go.VM
namespace Go.VM
theorem zG{h:Heap}{k:RT Key→Option (AV × Heap)}{x:AV × Heap}:∀ {l:List (Key × AObj)} {σ:RT Key},xl h k l σ=some x→
  ∃ σf,k σf=some x∧tB σ σf∧∀ p ∈ l,∃ b o σ',σf.get p.1=some b∧h.get b=some o∧tB σ' σf∧(p.2=.dead∨wk p.2 o=true∨sO σ'.get p.2 o=true)
 | [],σ,e=>⟨σ,e,fun _ _ h=>h,fun _ h=>by cases h⟩
 | p::r,σ,e=>by
  unfold xl at e
  cases hp:σ.get p.1 with
  | none=>rw [hp] at e;cases e
  | some b=>
   rw [hp] at e
   dsimp only at e
   cases hb:h.get b with
   | none=>rw [hb] at e;cases e
   | some o=>
    rw [hb] at e
    dsimp only at e
    rw [kL] at e
    cases hc:sOD (tA (HU p.2 o) σ) p.2 o with
    | false=>rw [hc] at e;cases e
    | true=>
     rw [hc,cond_true] at e
     obtain⟨σf,h1,h2,h3⟩:=zG e
     refine⟨σf,h1,fun a c hac=>h2 a c (jt _ _ a c hac),fun q hq=>?_⟩
     cases hq with
     | tail _ hq=>exact h3 q hq
     | head=>
      refine⟨b,o,tA (HU p.2 o) σ,h2 _ _ (jt _ _ _ _ hp),hb,h2,?_⟩
      unfold sOD at hc
      cases hd:tC p.2 with
      | true=>exact .inl (wj hd)
      | false=>
       rw [hd,cond_false] at hc
       cases hd2:wk p.2 o with
       | true=>exact .inr (.inl rfl)
       | false=>rw [hd2] at hc;exact .inr (.inr hc)
structure NewT (σ τ:RT Key) (h h':Heap):Prop where
 sub:tB σ τ
 old:∀ b o,h.get b=some o→h'.get b=some o
 inj:∀ a b,τ.get a=some b→σ.get a=none→h.get b=none∧h'.get b=some .dead
 two:∀ a a' b,τ.get a=some b→τ.get a'=some b→σ.get a=none→σ.get a'=none→a=a'
 out:∀ b,h.get b=none→h'.get b=none∨h'.get b=some .dead
theorem jv{preT:RT AObj}{k:RT Key→Heap→Option (AV × Heap)}{x:AV × Heap}:∀ {l:List (Key × AObj)} {σ:RT Key} {h:Heap},p9 preT k l σ h=some x→
  ∃ τ h',k τ h'=some x∧NewT σ τ h h'∧∀ p ∈ l,preT.get p.1=none→∃ b,τ.get p.1=some b∧σ.get p.1=none
 | [],σ,h,e=>⟨σ,h,e,⟨fun _ _ h=>h,fun _ _ h=>h,(fun a b h1 h2=>by rw [h1] at h2;cases h2),(fun a a' b h1 _ h2=>by rw [h1] at h2;cases h2),fun _ h=>.inl h⟩,(fun _ h=>by cases h)⟩
 | p::r,σ,h,e=>by
  unfold p9 at e
  cases hpp:preT.get p.1 with
  | some b=>
   rw [hpp] at e
   obtain⟨τ,h',h1,h2,h3⟩:=jv (show p9 preT k r σ h=some x from e)
   refine⟨τ,h',h1,h2,fun q hq hn=>?_⟩
   cases hq with
   | head=>rw [hpp] at hn;cases hn
   | tail _ hq=>exact h3 q hq hn
  | none=>
  rw [hpp] at e
  dsimp only at e
  cases hp:σ.get p.1 with
  | some b=>rw [hp] at e;cases e
  | none=>
   rw [hp] at e
   dsimp only at e
   cases hn:h.get h.next with
   | some _=>rw [hn] at e;cases e
   | none=>
    rw [hn] at e
    dsimp only at e
    rw [zF,zD] at e
    obtain⟨τ,h',h1,h2,h3⟩:=jv e
    have hg:∀ b,(Heap.mk (h.put h.next .dead).t (bV (h.put h.next .dead).next)).get b=(h.put h.next .dead).get b:=fun b=>by cases h;rfl
    have hsub:tB σ (σ.set h.next p.1):=fun a b hab=>by
     rw [RT.get_set_other _ _ _ _ (fun e=>by rw [←e,hp] at hab;cases hab)];exact hab
    have hpτ:τ.get p.1=some h.next:=h2.sub _ _ (RT.get_set_same ..)
    have hdead:h'.get h.next=some .dead:=h2.old _ _ (by rw [hg,Heap.get_put_same])
    have key:∀ a b,τ.get a=some b→σ.get a=none→a≠p.1→(σ.set h.next p.1).get a=none:=fun a b _ h5 h6=>by
     rw [RT.get_set_other _ _ _ _ (fun e=>h6 e.symm)];exact h5
    have hne:∀ a b,τ.get a=some b→σ.get a=none→a≠p.1→b≠h.next:=fun a b h4 h5 h6 e=>by
     have:=(h2.inj a b h4 (key a b h4 h5 h6)).1
     rw [hg,e,Heap.get_put_same] at this;cases this
    refine⟨τ,h',h1,⟨fun a b hab=>h2.sub _ _ (hsub a b hab),fun b o hb=>?_,fun a b h4 h5=>?_,fun a a' b h4 h5 h6 h7=>?_,fun b hb=>?_⟩,fun q hq hqn=>?_⟩
    ·refine h2.old b o ?_
     rw [hg,Heap.get_put_other _ _ _ _ (fun e=>by rw [←e,hn] at hb;cases hb)];exact hb
    ·by_cases h6:a=p.1
     ·subst h6
      rw [hpτ] at h4;injection h4 with h4;subst h4
      exact⟨hn,hdead⟩
     ·obtain⟨h8,h9⟩:=h2.inj a b h4 (key a b h4 h5 h6)
      rw [hg,Heap.get_put_other _ _ _ _ (fun e=>hne a b h4 h5 h6 e.symm)] at h8
      exact⟨h8,h9⟩
    ·by_cases ha:a=p.1<;>by_cases ha':a'=p.1
     ·rw [ha,ha']
     ·subst ha
      rw [hpτ] at h4;injection h4 with h4
      exact absurd h4.symm (hne a' b h5 h7 ha')
     ·subst ha'
      rw [hpτ] at h5;injection h5 with h5
      exact absurd h5.symm (hne a b h4 h6 ha)
     ·exact h2.two a a' b h4 h5 (key a b h4 h6 ha) (key a' b h5 h7 ha')
    ·by_cases hbn:b=h.next
     ·rw [hbn];exact .inr hdead
     ·exact h2.out b (by rw [hg,Heap.get_put_other _ _ _ _ (fun e=>hbn e.symm)];exact hb)
    ·cases hq with
     | head=>exact⟨_,hpτ,hp⟩
     | tail _ hq=>
      obtain⟨b,h4,h5⟩:=h3 q hq hqn
      refine⟨b,h4,?_⟩
      cases h6:σ.get q.1 with
      | none=>rfl
      | some c=>rw [hsub _ _ h6] at h5;cases h5
theorem wl{τ:RT Key}{k:Heap→Option (AV × Heap)}{x:AV × Heap}:∀ {l:List (Key × AObj)} {h:Heap},HY τ k l h=some x→
  ∃ h',k h'=some x∧(∀ b,(∀ p ∈ l,tK τ p.1≠b)→h'.get b=h.get b)∧∀ b,(∃ p ∈ l,tK τ p.1=b)→∃ p ∈ l,tK τ p.1=b∧h'.get b=some (rO (tK τ) p.2)∧(fG l RT.nil).get p.1=some p.2
 | [],h,e=>⟨h,e,fun _ _=>rfl,fun _ ⟨_,hp,_⟩=>by cases hp⟩
 | p::r,h,e=>by
  unfold HY at e
  rw [zD] at e
  obtain⟨h',h1,h2,h3⟩:=wl e
  refine⟨h',h1,fun b hb=>?_,fun b hb=>?_⟩
  ·rw [h2 b fun q hq=>hb q (List.mem_cons_of_mem _ hq),Heap.get_put_other _ _ _ _ (hb p (List.mem_cons_self ..))]
  ·by_cases hr:∃ q ∈ r,tK τ q.1=b
   ·obtain⟨q,hq,h4,h5,h6⟩:=h3 b hr
    refine⟨q,List.mem_cons_of_mem _ hq,h4,h5,?_⟩
    show (fG r (RT.nil.set p.2 p.1)).get q.1=_
    rw [p3 ⟨q,hq,rfl⟩ (t':=RT.nil)];exact h6
   ·have hpb:tK τ p.1=b:=by
     obtain⟨q,hq,e⟩:=hb
     cases hq with
     | head=>exact e
     | tail _ hq=>exact absurd ⟨q,hq,e⟩ hr
    refine⟨p,List.mem_cons_self ..,hpb,?_,?_⟩
    ·rw [h2 b fun q hq e=>hr ⟨q,hq,e⟩,←hpb,Heap.get_put_same]
    ·show (fG r (RT.nil.set p.2 p.1)).get p.1=_
     rw [cG fun q hq e=>hr ⟨q,hq,by rw [←hpb,e]⟩,RT.get_set_same]
theorem qf{S:Key→Bool}{st:RT AObj}:∀ {l:List (Key × AObj)},tE S st l=true→∀ p ∈ l,lq S p.2=true∧(p.2=.dead∨ju p.2=true∨dB p.2=true)∧st.get p.1=none
 | [],_,p,hp=>by cases hp
 | q::r,h,p,hp=>by
  unfold tE at h
  obtain⟨h1,h⟩:=ad h
  obtain⟨h2,h⟩:=ad h
  cases hq:st.get q.1 with
  | some x=>rw [hq] at h;cases h
  | none=>
   rw [hq] at h
   cases hp with
   | head=>
    refine⟨h1,?_,hq⟩
    cases hd:tC q.2 with
    | true=>exact .inl (wj hd)
    | false=>
     rw [hd] at h2
     cases hd2:ju q.2 with
     | true=>exact .inr (.inl rfl)
     | false=>rw [hd2] at h2;exact .inr (.inr h2)
   | tail _ hp=>exact qf (show tE S st r=true from h) p hp
theorem ObjRel.refitX{N N':Nat→Prop}{ρ ρ':Rho}{S:Key→Bool}{L:Loc}{O:Option Obj}{o:AObj}(hk:o=.dead∨ju o=true∨dB o=true)(hN:dB o=true→¬ N' L.B)(hS:∀ b L,S b=true→ρ b=some L→ρ' b=some L)(ho:lq S o=true)(h:ObjRel N ρ L O o):ObjRel N' ρ' L O o:=by
 rcases hk with rfl | hk | hk
 ·trivial
 ·cases o with
  | dom ds=>exact h
  | _=>cases hk
 ·exact ObjRel.refit hk (hN hk) hS ho h
end Go.VM
namespace Go.VM
theorem BG{o:AObj}(h:ju o=true)(k:o.live=true):False:=by cases o<;>first | cases h;done | cases k;done
theorem iG{o:AObj}(h:ju o=true)(k:dB o=true):False:=by cases o<;>first | cases h;done | cases k;done
section
variable [H:Hook] {P:Program}
theorem G4(hR:RowsOk P)(hF:P.follows .mixedOrders=true)(h64:P.globals.size≤64){laid:List (Nat × AObj)}{tot:Nat→Nat}{W0:Base}(hW:W0.Keeps P laid tot)
  (hS:∀ b:Base,b.Keeps P laid tot→(∀ g v,g < P.globals.size→W0.w.cell? ⟨g,0,none⟩=some v→b.w.cell? ⟨g,0,none⟩=some v)→SumOk P b)
  {f n:Nat} {r:MRow} {k:Key} (hok:r.okX P laid=true) (hrun:∀ c ∈ picks r.pre,runF P (covers r) n (startM P laid f r.args c k)=true)
  {ρ:Rho} {h:Heap} {w:World} {args:List AV} {A:List Value} (hs:Sim W0 ρ h w) (hr:RelL ρ args A) {x:AV × Heap} (ha:tD r args h=some x):
  Calls P f ⟨A⟩ w fun e w'=>∃ ρ' V,e=.returned V∧Sub ρ ρ'∧Kept ρ h ρ' x.2∧Rel ρ' x.1 V∧Sim W0 ρ' x.2 w':=by
 unfold tD at ha
 rw [kL] at ha
 generalize tA (qx (jl 20) r.args args) RT.nil=σ0 at ha
 cases hargs0:mLs (sV σ0.get 20) r.args args with
 | false=>rw [hargs0] at ha;cases ha
 | true=>
 rw [hargs0,cond_true] at ha
 obtain⟨σ,ha,hsub0,hm⟩:=zG ha
 unfold G3 at ha
 cases hinjσ:xe σ RT.nil r.pre RT.nil with
 | false=>rw [hinjσ] at ha;cases ha
 | true=>
 rw [hinjσ,cond_true] at ha
 obtain⟨τ,hm',ha,hnew,hpostN⟩:=jv ha
 unfold IF at ha
 obtain⟨hh,ha,hputout,hputin⟩:=wl ha
 injection ha with ha
 subst ha
 unfold MRow.okX at hok
 obtain⟨hargs,hok⟩:=ad hok
 obtain⟨hpo,hok⟩:=ad hok
 obtain⟨hnd,hreach⟩:=ad hok
 have hnd:=(jm hnd).2
 have hT:∀ p ∈ r.pre,r.preT.get p.1=some p.2:=iD hnd
 have hTs:∀ {b o},r.preT.get b=some o→(b,o) ∈ r.pre:=fun {b o} e=>by
  rcases cX e with h1 | ⟨_,h1⟩
  ·exact h1
  ·rw [RT.get_nil] at h1;cases h1
 have hpk:=qf hpo
 obtain⟨_,hi2⟩:=gR hinjσ
 let ρσ:Rho:=fun a=>(σ.get a).bind ρ
 have hσρ:∀ {σ':RT Key},tB σ' σ→∀ a b L,σ'.get a=some b→ρ b=some L→ρσ a=some L:=fun {σ'} hsub a b L e1 e2=>by
  show (σ.get a).bind ρ=_
  rw [hsub a b e1];exact e2
 have hrσ:RelL ρσ r.args A:=dI (jr (hσρ hsub0) 20) hargs0 hr
 have hobjσ:∀ p ∈ r.pre,∀ L,ρσ p.1=some L→∃ b o,σ.get p.1=some b∧h.get b=some o∧ρ b=some L∧L.B < w.heap.size∧ObjRel W0.F ρσ L w.heap[L.B]? p.2∧(p.2=.dead∨ju p.2=true∨(dB p.2=true∧dB o=true∧∃ σ',tB σ' σ∧sO σ'.get p.2 o=true)):=fun p hp L e=>by
  obtain⟨b,o,σ',q1,q2,q3,q4⟩:=hm p hp
  have e:(σ.get p.1).bind ρ=some L:=e
  rw [q1] at e
  have e:ρ b=some L:=e
  obtain⟨o',g,hlt,ho⟩:=hs.obj b L e
  rw [q2] at g;injection g with g;subst g
  refine⟨b,o,q1,q2,e,hlt,?_,?_⟩
  ·rcases q4 with q4 | q4 | q4
   ·rw [q4];trivial
   ·exact G2 q4 ho
   ·exact Jj (hσρ q3) q4 ho
  ·rcases q4 with q4 | q4 | q4
   ·exact .inl q4
   ·exact .inr (.inl (Ez q4).1)
   ·exact .inr (.inr ⟨(CV q4).1,(CV q4).2,σ',q3,q4⟩)
 have hρ:∀ p ∈ r.pre,∃ L,ρσ p.1=some L:=by
  refine nq hreach (fun b hb=>?_) (fun p hp hL b hb=>?_)
  ·rcases p5 hb with h1 | h1
   ·exact iE (iF 20) hrσ b h1
   ·rw [RT.get_nil] at h1;cases h1
  ·obtain⟨L,e⟩:=hL
   obtain⟨_,_,_,_,_,_,ho,_⟩:=hobjσ p hp L e
   exact HV ho b hb
 have hfree:∀ p ∈ r.pre,dB p.2=true→∀ L,ρσ p.1=some L→¬ W0.F L.B:=fun p hp hk L e=>by
  obtain⟨_,_,_,_,_,_,ho,_⟩:=hobjσ p hp L e
  exact BA hk ho
 -- the callee's base
 let F:Nat→Prop:=fun a=>a < w.heap.size∧∀ p ∈ r.pre,dB p.2=true→∀ L,ρσ p.1=some L→L.B≠a
 let ρK:Rho:=fun b=>match startRho tot P.globals.size b with
  | some L=>some L
  | none=>match r.preT.get b with
   | some _=>ρσ b
   | none=>none
 let w0:Base:=⟨w,F,fun a e=>e.1,ρK⟩
 have hgk:∀ p ∈ r.pre,startRho tot P.globals.size p.1=none:=fun p hp=>by
  cases e:startRho tot P.globals.size p.1 with
  | none=>rfl
  | some L=>
   obtain⟨g,hg,hk,_⟩:=aE e
   have:=(hpk p hp).2.2
   rw [hk,eU h64 hg] at this;cases this
 have hFW:∀ a,W0.F a→F a:=fun a ha=>⟨Nat.lt_of_lt_of_le (W0.lt a ha) hs.size,fun p hp hk L e hB=>hfree p hp hk L e (hB▸ha)⟩
 have hKp:∀ p ∈ r.pre,ρK p.1=ρσ p.1:=fun p hp=>by
  show (match startRho tot P.globals.size p.1 with | some L=>some L | none=>match r.preT.get p.1 with | some _=>ρσ p.1 | none=>none)=_
  rw [hgk p hp,hT p hp]
 have hKs:∀ {b L},startRho tot P.globals.size b=some L→ρK b=some L:=fun {b L} e=>by
  show (match startRho tot P.globals.size b with | some L=>some L | none=>match r.preT.get b with | some _=>ρσ b | none=>none)=_
  rw [e]
 have hKc:∀ {b L},ρK b=some L→startRho tot P.globals.size b=some L∨∃ o,(b,o) ∈ r.pre∧ρσ b=some L:=fun {b L} e=>by
  have e:(match startRho tot P.globals.size b with | some L=>some L | none=>match r.preT.get b with | some _=>ρσ b | none=>none)=some L:=e
  cases hst:startRho tot P.globals.size b with
  | some L'=>rw [hst] at e;injection e with e;subst e;exact .inl rfl
  | none=>
   rw [hst] at e
   cases hp:r.preT.get b with
   | none=>rw [hp] at e;cases e
   | some o=>rw [hp] at e;exact .inr ⟨o,hTs hp,e⟩
 have laidw:LaidOk P laid tot w:=hW.world hs.size hs.old
 have hkeeps:w0.Keeps P laid tot:=⟨laidw,fun g hg=>hFW g (hW.glob g hg),fun b L e=>hKs e⟩
 have hSum:=hS w0 hkeeps fun g v hg hc=>cell_keeps hW hc hg hs.old
 have hS':∀ b L,inT r.preT b=true→ρσ b=some L→ρK b=some L:=fun b L hb e=>by
  cases hp:r.preT.get b with
  | none=>unfold inT at hb;rw [hp] at hb;cases hb
  | some o=>rw [←e];exact hKp (b,o) (hTs hp)
 have hnF:∀ p ∈ r.pre,dB p.2=true→∀ L,ρσ p.1=some L→¬ F L.B:=fun p hp hk L e hF=>hF.2 p hp hk L e rfl
 obtain⟨c,hc,hck,hcq⟩:=zz (Q:=fun b o=>(∃ L,ρσ b=some L∧L.B < w.heap.size∧ObjRel F ρK L w.heap[L.B]? o)∧∀ q ∈ r.pre,q.1=b→(q.2=.dead∨ju q.2=true)→o=q.2) (fun b vs hq=>by
   obtain⟨⟨L,e,hlt,hN,v,hv,E,hO,hE⟩,hd⟩:=hq
   exact⟨v,hv,⟨L,e,hlt,hN,E,hO,hE⟩,fun q hq h1 h2=>by
    have h3:=hd q hq h1 h2
    rcases h2 with h2 | h2<;>(rw [←h3] at h2;cases h2)⟩) (l:=r.pre) (fun p hp=>by
   obtain⟨L,e⟩:=hρ p hp
   obtain⟨_,_,_,_,_,hlt,ho,_⟩:=hobjσ p hp L e
   refine⟨⟨L,e,hlt,ObjRel.refitX (hpk p hp).2.1 (fun hk=>hnF p hp hk L e) hS' (hpk p hp).1 ho⟩,fun q hq h1 h2=>?_⟩
   have h3:=hT q hq
   rw [h1,hT p hp] at h3;injection h3)
 have hcin:∀ {b},(∃ p ∈ c,p.1=b) ↔ ∃ p ∈ r.pre,p.1=b:=fun {b}=>by
  have h1:b ∈ c.map (·.1) ↔ b ∈ r.pre.map (·.1):=by rw [hck]
  rw [List.mem_map,List.mem_map] at h1
  exact h1
 have hg0:∀ b,(bp c ⟨startT laid P.globals.size,k⟩).get b=(fG c (startT laid P.globals.size)).get b:=fun b=>by rw [p4];rfl
 have hlive0:∀ {b o p},(b,p) ∈ r.pre→(bp c ⟨startT laid P.globals.size,k⟩).get b=some o→o.live=true→dB p=true:=fun {b o p} hp g l=>by
  obtain⟨o1,h1,h2⟩:=np (l:=c) (t:=startT laid P.globals.size) (b:=b) (hcin.2 ⟨(b,p),hp,rfl⟩)
  rw [hg0,h1] at g;injection g with g;subst g
  rcases (hpk _ hp).2.1 with h3 | h3 | h3
  ·have h4:=(hcq _ h2).2 _ hp rfl (.inl h3)
   have h4:o1=p:=h4
   have h3:p=.dead:=h3
   rw [h4,h3] at l;cases l
  ·have h4:=(hcq _ h2).2 _ hp rfl (.inr h3)
   have h4:o1=p:=h4
   have h3:ju p=true:=h3
   rw [h4] at l
   exact (BG h3 l).elim
  ·exact h3
 have hs0:Sim w0 ρK (bp c ⟨startT laid P.globals.size,k⟩) w:=by
  refine⟨rfl,rfl,Nat.le_refl _,fun _ _=>rfl,Sub.refl _,fun b L e=>?_,fun b b' L L' o o' e e' g g' l l' hB=>?_⟩
  ·rcases hKc e with e1 | ⟨o,hp,e1⟩
   ·obtain⟨g,hg,rfl,rfl⟩:=aE e1
    have hout:∀ p ∈ c,p.1≠jy g:=fun p hp he=>by
     obtain⟨q,hq,hqe⟩:=hcin.1 ⟨p,hp,he⟩
     have:=hgk q hq
     rw [hqe,e1] at this;cases this
    refine⟨_,by rw [hg0,cG hout];exact eU h64 hg,Nat.lt_of_lt_of_le hg laidw.1,?_⟩
    cases hx:laid.lookup g with
    | none=>exact trivial
    | some o=>exact laidw.2 g o hg hx _ _
   ·obtain⟨o1,h1,h2⟩:=np (l:=c) (t:=startT laid P.globals.size) (b:=b) (hcin.2 ⟨(b,o),hp,rfl⟩)
    obtain⟨⟨L',e2,hlt,hq⟩,_⟩:=hcq (b,o1) h2
    rw [e1] at e2;injection e2 with e2;subst e2
    exact⟨o1,by rw [hg0];exact h1,hlt,hq⟩
  ·rcases hKc e with e1 | ⟨p1,hp1,e1⟩<;>rcases hKc e' with e2 | ⟨p2,hp2,e2⟩
   ·obtain⟨x,_,rfl,rfl⟩:=aE e1
    obtain⟨y,_,rfl,rfl⟩:=aE e2
    have:x=y:=hB
    rw [this]
   ·obtain⟨x,hx,rfl,rfl⟩:=aE e1
    have hB:x=L'.B:=hB
    exact absurd (hB▸hW.glob x hx) (hfree _ hp2 (hlive0 hp2 g' l') L' e2)
   ·obtain⟨x,hx,rfl,rfl⟩:=aE e2
    have hB:L.B=x:=hB
    exact absurd (hB▸hW.glob x hx) (hfree _ hp1 (hlive0 hp1 g l) L e1)
   ·have k1:=hlive0 hp1 g l
    have k2:=hlive0 hp2 g' l'
    obtain⟨b1,o1,q1,g1,r1,_,_,s1⟩:=hobjσ _ hp1 L e1
    obtain⟨b2,o2,q2,g2,r2,_,_,s2⟩:=hobjσ _ hp2 L' e2
    have l1:o1.live=true:=by
     rcases s1 with s1 | s1 | ⟨_,s1,_⟩
     ·have s1:p1=.dead:=s1
      rw [s1] at k1;cases k1
     ·exact (iG s1 k1).elim
     ·exact eg s1
    have l2:o2.live=true:=by
     rcases s2 with s2 | s2 | ⟨_,s2,_⟩
     ·have s2:p2=.dead:=s2
      rw [s2] at k2;cases k2
     ·exact (iG s2 k2).elim
     ·exact eg s2
    have hbb:=hs.inj b1 b2 L L' o1 o2 r1 r2 g1 g2 l1 l2 hB
    subst hbb
    exact hi2 _ hp1 _ hp2 (RT.get_nil _) (RT.get_nil _) (q1.trans q2.symm)
 have hglob:Glob P ρK:=fun g hg=>⟨_,hKs (fP h64 hg),rfl,rfl⟩
 have hargsK:RelL ρK r.args A:=RelL.withinF (Rel.within hS' 20) hargs hrσ
 have hrunc:=hrun c hc
 unfold startM at hrunc
 cases hb:bodyOf P f with
 | none=>rw [hb,eQ] at hrunc;cases n<;>cases hrunc
 | some cd=>
 rw [hb,eQ] at hrunc
 refine (cU ⟨⟩ ⟨cq hR,hSum⟩ hF hs0 hglob hargsK hb hrunc).mono ?_
 rintro e w' ⟨ρ1,v,V,h1,rfl,hv,hs1,_,hpost⟩
 unfold covers at hpost
 generalize (uni r.preT r.tgtT h1 1000000 (cat (jl 20 r.val v) (Bz r.tgtT h1 r.pre)) RT.nil)=π at hpost
 unfold K6 at hpost
 obtain⟨hval,hpost⟩:=ad hpost
 obtain⟨hcp,hpost⟩:=ad hpost
 obtain⟨hcq2,hinj⟩:=ad hpost
 have hcp:=jn hcp
 have hcq2:=jn hcq2
 obtain⟨hinj1,hinj2⟩:=gR hinj
 have hstand:∀ a o',r.tgtT.get a=some o'→∃ b o,trk r.preT r.tgtT π a=some b∧h1.get b=some o∧mO (trk r.preT r.tgtT π) o' o=true:=fun a o' ht=>by
  have key:∀ p:Key × AObj,p.1=a→(∃ o' b o,r.tgtT.get p.1=some o'∧trk r.preT r.tgtT π p.1=some b∧h1.get b=some o∧mO (trk r.preT r.tgtT π) o' o=true)→∃ b o,trk r.preT r.tgtT π a=some b∧h1.get b=some o∧mO (trk r.preT r.tgtT π) o' o=true:=by
   rintro p rfl ⟨o2,b,o,q1,q2,q3,q4⟩
   rw [ht] at q1;injection q1 with q1;subst q1
   exact⟨b,o,q2,q3,q4⟩
  rcases cX ht with h2 | ⟨_,h2⟩
  ·exact key _ rfl (hcp _ h2)
  ·exact key _ rfl (hcq2 _ (hTs h2))
 -- the row's names behind the call
 let ρ2:Rho:=fun a=>match r.tgtT.get a with
  | some _=>(trk r.preT r.tgtT π a).bind ρ1
  | none=>none
 have hρ2:∀ {a o'},r.tgtT.get a=some o'→ρ2 a=(trk r.preT r.tgtT π a).bind ρ1:=fun {a o'} e=>by
  show (match r.tgtT.get a with | some _=>(trk r.preT r.tgtT π a).bind ρ1 | none=>none)=_
  rw [e]
 have hf:∀ a b L,trk r.preT r.tgtT π a=some b→ρ1 b=some L→ρ2 a=some L:=fun a b L e e1=>by
  obtain⟨⟨o,ho⟩,_⟩:=tp e
  rw [hρ2 ho,e];exact e1
 have hpt:∀ {a o},r.preT.get a=some o→∃ o',r.tgtT.get a=some o':=fun {a o} e=>by
  cases ht:r.tgtT.get a with
  | some o'=>exact⟨o',rfl⟩
  | none=>
   exfalso
   by_cases hm:∃ p ∈ r.post,p.1=a
   ·obtain⟨o',h2,_⟩:=np (t:=r.preT) hm
    have h2:r.tgtT.get a=some o':=h2
    rw [ht] at h2;cases h2
   ·have h2:r.tgtT.get a=r.preT.get a:=cG fun p hp he=>hm ⟨p,hp,he⟩
    rw [ht,e] at h2;cases h2
 have htpre:∀ {a o},r.preT.get a=some o→trk r.preT r.tgtT π a=some a:=fun {a o} e=>by
  obtain⟨o',ht⟩:=hpt e
  unfold trk;rw [ht];dsimp only;rw [e]
 -- a name of the row's start stays
 have hstay:∀ {a o},r.preT.get a=some o→∃ b L,σ.get a=some b∧τ.get a=some b∧ρ b=some L∧ρ2 a=some L∧ρσ a=some L∧∃ o2,h.get b=some o2:=fun {a o} e=>by
  obtain⟨L,e1⟩:=hρ (a,o) (hTs e)
  obtain⟨b,o2,q1,q2,q3,_⟩:=hobjσ (a,o) (hTs e) L e1
  refine⟨b,L,q1,hnew.sub _ _ q1,q3,hf a a L (htpre e) (hs1.sub a L ?_),e1,o2,q2⟩
  show ρK a=some L
  rw [hKp (a,o) (hTs e)];exact e1
 have hnewp:∀ {a o'},r.tgtT.get a=some o'→r.preT.get a=none→∃ b,τ.get a=some b∧σ.get a=none∧h.get b=none:=fun {a o'} ht hp=>by
  rcases cX ht with h2 | ⟨_,h2⟩
  ·obtain⟨b,h3,h4⟩:=hpostN _ h2 hp
   exact⟨b,h3,h4,(hnew.inj _ _ h3 h4).1⟩
  ·rw [show r.preT.get a=some o' from h2] at hp;cases hp
 let Nw:Key→Key→Prop:=fun b a=>r.preT.get a=none∧(∃ o',r.tgtT.get a=some o')∧τ.get a=some b
 have hNw:∀ {b a a'},Nw b a→Nw b a'→a=a':=fun {b a a'} ⟨h2,⟨o,h3⟩,h4⟩ ⟨h5,⟨o',h6⟩,h7⟩=>by
  obtain⟨_,_,q1,_⟩:=hnewp h3 h2
  obtain⟨_,_,q2,_⟩:=hnewp h6 h5
  exact hnew.two a a' b h4 h7 q1 q2
 have hNwf:∀ {b a},Nw b a→h.get b=none:=fun {b a} ⟨h2,⟨o,h3⟩,h4⟩=>by
  obtain⟨b',q1,_,q2⟩:=hnewp h3 h2
  rw [h4] at q1;injection q1 with q1;rw [q1];exact q2
 classical
 let ρ':Rho:=fun b=>if hx:∃ a,Nw b a then ρ2 hx.choose else ρ b
 have hρn:∀ {b a},Nw b a→ρ' b=ρ2 a:=fun {b a} ha=>by
  have hx:∃ a,Nw b a:=⟨a,ha⟩
  show (if hx:∃ a,Nw b a then ρ2 hx.choose else ρ b)=_
  rw [dif_pos hx,hNw hx.choose_spec ha]
 have hρo:∀ {b},(¬ ∃ a,Nw b a)→ρ' b=ρ b:=fun {b} hx=>by
  show (if hx:∃ a,Nw b a then ρ2 hx.choose else ρ b)=_
  rw [dif_neg hx]
 have hρh:∀ {b o},h.get b=some o→ρ' b=ρ b:=fun {b o} g=>hρo fun ⟨a,ha⟩=>by rw [hNwf ha] at g;cases g
 have htK:∀ {a b},τ.get a=some b→tK τ a=b:=fun {a b} e=>by unfold tK;rw [e]
 have hback:∀ a L,ρ2 a=some L→ρ' (tK τ a)=some L:=fun a L e=>by
  cases ht:r.tgtT.get a with
  | none=>
   have e:(match r.tgtT.get a with | some _=>(trk r.preT r.tgtT π a).bind ρ1 | none=>none)=some L:=e
   rw [ht] at e;cases e
  | some o'=>
   cases hp:r.preT.get a with
   | some o=>
    obtain⟨b,L',_,h3,h4,h5,_,o2,h6⟩:=hstay hp
    rw [h5] at e;injection e with e;subst e
    rw [htK h3,hρh h6];exact h4
   | none=>
    obtain⟨b,h3,_,_⟩:=hnewp ht hp
    rw [htK h3,hρn ⟨hp,⟨o',ht⟩,h3⟩];exact e
 have hsub:Sub ρ ρ':=fun b L e=>by
  obtain⟨o,g,_⟩:=hs.obj b L e
  rw [hρh g];exact e
 have htgt:∀ {a o' L},r.tgtT.get a=some o'→ρ2 a=some L→∃ b o,trk r.preT r.tgtT π a=some b∧ρ1 b=some L∧h1.get b=some o∧mO (trk r.preT r.tgtT π) o' o=true∧L.B < w'.heap.size∧ObjRel F ρ1 L w'.heap[L.B]? o:=fun {a o' L} ht e=>by
  obtain⟨b,o,q1,q2,q3⟩:=hstand a o' ht
  rw [hρ2 ht,q1] at e
  have e:ρ1 b=some L:=e
  obtain⟨o2,q4,q5,q6⟩:=hs1.obj b L e
  rw [q2] at q4;injection q4 with q4;subst q4
  exact⟨b,o,q1,e,q2,q3,q5,q6⟩
 have hrel:∀ {a o' L},r.tgtT.get a=some o'→ρ2 a=some L→L.B < w'.heap.size∧ObjRel W0.F ρ' L w'.heap[L.B]? (rO (tK τ) o')∧(dB o'=true→¬ F L.B):=fun {a o' L} ht e=>by
  obtain⟨b,o,_,_,_,q3,q5,q6⟩:=htgt ht e
  exact⟨q5,(Jk hback (K5 hf q3 q6)).weak hFW,fun hk=>HS q3 (eg hk) q6⟩
 have hpostT:∀ {p},p ∈ r.post→(fG r.post RT.nil).get p.1=some p.2→r.tgtT.get p.1=some p.2:=fun {p} hp e=>by
  rw [←e];exact p3 ⟨p,hp,rfl⟩
 -- each name behind the call is one of the row's,or stays as it was
 have hclass:∀ b L,ρ' b=some L→(∃ a o',r.tgtT.get a=some o'∧tK τ a=b∧ρ2 a=some L∧hh.get b=some (rO (tK τ) o'))∨(∃ o,ρ b=some L∧h.get b=some o∧hh.get b=some o∧(o.live=true→F L.B)):=fun b L e=>by
  by_cases hx:∃ a,Nw b a
  ·obtain⟨a,ha⟩:=hx
   rw [hρn ha] at e
   obtain⟨h2,⟨o',h3⟩,h4⟩:=ha
   have hin:∃ p ∈ r.post,tK τ p.1=b:=by
    rcases cX h3 with h5 | ⟨_,h5⟩
    ·exact⟨_,h5,htK h4⟩
    ·rw [show r.preT.get a=some o' from h5] at h2;cases h2
   obtain⟨p,hp,h5,h6,h7⟩:=hputin b hin
   have ht:=hpostT hp h7
   have hpa:p.1=a:=by
    cases hpp:r.preT.get p.1 with
    | some o=>
     obtain⟨b',_,_,q1,_,_,_,o2,q2⟩:=hstay hpp
     rw [htK q1] at h5;subst h5
     rw [hNwf ⟨h2,⟨o',h3⟩,h4⟩] at q2;cases q2
    | none=>
     obtain⟨b',q1,_,_⟩:=hnewp ht hpp
     rw [htK q1] at h5;subst h5
     exact hNw ⟨hpp,⟨_,ht⟩,q1⟩ ⟨h2,⟨o',h3⟩,h4⟩
   exact .inl ⟨a,p.2,by rw [←hpa];exact ht,htK h4,e,h6⟩
  ·rw [hρo hx] at e
   obtain⟨o,g,hlt,ho⟩:=hs.obj b L e
   by_cases hin:∃ p ∈ r.post,tK τ p.1=b
   ·obtain⟨p,hp,h5,h6,h7⟩:=hputin b hin
    have ht:=hpostT hp h7
    cases hpp:r.preT.get p.1 with
    | some op=>
     obtain⟨b',L',_,q1,q3,q4,_,_⟩:=hstay hpp
     rw [htK q1] at h5;subst h5
     rw [e] at q3;injection q3 with q3;subst q3
     exact .inl ⟨p.1,p.2,ht,htK q1,q4,h6⟩
    | none=>
     exfalso
     obtain⟨b',q1,_,q2⟩:=hnewp ht hpp
     rw [htK q1] at h5;subst h5
     rw [g] at q2;cases q2
   ·have hgo:hh.get b=some o:=by
     rw [hputout b fun p hp he=>hin ⟨p,hp,he⟩];exact hnew.old b o g
    by_cases hpre:∃ p ∈ r.pre,dB p.2=true∧σ.get p.1=some b
    ·obtain⟨p,hp,hk,hσ⟩:=hpre
     obtain⟨b',L',q0,q1,q3,q4,q5,_⟩:=hstay (hT p hp)
     rw [hσ] at q0;injection q0 with q0;subst q0
     rw [e] at q3;injection q3 with q3;subst q3
     have ht:r.tgtT.get p.1=some p.2:=by
      rw [←hT p hp]
      exact cG fun q hq he=>hin ⟨q,hq,by rw [he];exact htK q1⟩
     obtain⟨b2,o2,u1,u2,_,_,_,u3⟩:=hobjσ p hp L q5
     rw [hσ] at u1;injection u1 with u1;subst u1
     rw [g] at u2;injection u2 with u2;subst u2
     rcases u3 with u3 | u3 | ⟨_,_,σ',u4,u5⟩
     ·rw [u3] at hk;cases hk
     ·exact (iG u3 hk).elim
     ·have hoe:o=rO (tK τ) p.2:=Kc (fun a c hac=>htK (hnew.sub _ _ (u4 a c hac))) u5
      exact .inl ⟨p.1,p.2,ht,htK q1,q4,by rw [hgo,hoe]⟩
    ·refine .inr ⟨o,e,g,hgo,fun hl=>⟨hlt,fun p hp hk L' e' hB=>hpre ⟨p,hp,hk,?_⟩⟩⟩
     obtain⟨b2,o2,u1,u2,u6,_,_,u3⟩:=hobjσ p hp L' e'
     have l2:o2.live=true:=by
      rcases u3 with u3 | u3 | ⟨_,u3,_⟩
      ·rw [u3] at hk;cases hk
      ·exact (iG u3 hk).elim
      ·exact eg u3
     have:=hs.inj b2 b L' L o2 o u6 e u2 g l2 hl hB
     rw [←this];exact u1
 refine⟨ρ',V,rfl,hsub,fun a o g e=>⟨by rw [hρh g];exact e,?_⟩,tz hback 20 _ _ (lz hf 20 _ _ _ hval hv),hs1.os.trans hs.os,hs1.out.trans hs.out,Nat.le_trans hs.size hs1.size,fun a hA=>(hs1.old a (hFW a hA)).trans (hs.old a hA),hs.sub.trans hsub,fun b L e=>?_,fun b1 b2 L1 L2 o1 o2 e1 e2 g1 g2 l1 l2 hB=>?_⟩
 ·rw [hputout a fun p hp he=>?_]
  ·exact hnew.old a o g
  ·obtain⟨p',hp',h5,_,h7⟩:=hputin a ⟨p,hp,he⟩
   have ht:=hpostT hp' h7
   cases hpp:r.preT.get p'.1 with
   | some op=>
    obtain⟨b',L',_,q1,q3,_⟩:=hstay hpp
    rw [htK q1] at h5;subst h5
    rw [e] at q3;cases q3
   | none=>
    obtain⟨b',q1,_,q2⟩:=hnewp ht hpp
    rw [htK q1] at h5;subst h5
    rw [g] at q2;cases q2
 ·rcases hclass b L e with ⟨a,o',ht,_,h3,h4⟩ | ⟨o,h2,h3,h4,h5⟩
  ·obtain⟨q1,q2,_⟩:=hrel ht h3
   exact⟨_,h4,q1,q2⟩
  ·obtain⟨o2,g,hlt,ho⟩:=hs.obj b L h2
   rw [h3] at g;injection g with g;subst g
   refine⟨o,h4,Nat.lt_of_lt_of_le hlt hs1.size,?_⟩
   cases hl:o.live with
   | true=>
    rw [hs1.old _ (h5 hl)]
    exact ho.mono hsub
   | false=>
    cases o with
    | dead=>trivial
    | dom ds=>exact ho
    | ivl lo hi=>exact ho
    | _=>simp [AObj.live] at hl
 ·rcases hclass b1 L1 e1 with ⟨a1,o1',ht1,u1,v1,y1⟩ | ⟨o1',u1,v1,y1,z1⟩<;>rcases hclass b2 L2 e2 with ⟨a2,o2',ht2,u2,v2,y2⟩ | ⟨o2',u2,v2,y2,z2⟩
  ·rw [y1] at g1;injection g1 with g1;subst g1
   rw [y2] at g2;injection g2 with g2;subst g2
   obtain⟨c1,p1,q1,r1,s1,m1,_,_⟩:=htgt ht1 v1
   obtain⟨c2,p2,q2,r2,s2,m2,_,_⟩:=htgt ht2 v2
   have hbb:=hs1.inj c1 c2 L1 L2 p1 p2 r1 r2 s1 s2 (CN m1 (eg (nA l1))) (CN m2 (eg (nA l2))) hB
   subst hbb
   have haa:a1=a2:=by
    rcases (tp q1).2 with ⟨⟨x1,y1⟩,z1⟩ | ⟨y1,z1⟩<;>rcases (tp q2).2 with ⟨⟨x2,y2⟩,z2⟩ | ⟨y2,z2⟩
    ·exact z1.symm.trans z2
    ·rcases cX ht2 with i0 | ⟨_,i0⟩
     ·obtain⟨b',i1,i2,_⟩:=hinj1 _ i0 y2
      rw [z2] at i1;injection i1 with i1;subst i1
      rw [z1,y1] at i2;cases i2
     ·rw [show r.preT.get a2=some o2' from i0] at y2;cases y2
    ·rcases cX ht1 with i0 | ⟨_,i0⟩
     ·obtain⟨b',i1,i2,_⟩:=hinj1 _ i0 y1
      rw [z1] at i1;injection i1 with i1;subst i1
      rw [z2,y2] at i2;cases i2
     ·rw [show r.preT.get a1=some o1' from i0] at y1;cases y1
    ·rcases cX ht1 with i0 | ⟨_,i0⟩
     ·rcases cX ht2 with j0 | ⟨_,j0⟩
      ·exact hinj2 _ i0 _ j0 y1 y2 (by rw [z1,z2])
      ·rw [show r.preT.get a2=some o2' from j0] at y2;cases y2
     ·rw [show r.preT.get a1=some o1' from i0] at y1;cases y1
   rw [←u1,←u2,haa]
  ·exfalso
   rw [y1] at g1;injection g1 with g1;subst g1
   rw [y2] at g2;injection g2 with g2;subst g2
   exact (hrel ht1 v1).2.2 (nA l1) (hB▸z2 l2)
  ·exfalso
   rw [y1] at g1;injection g1 with g1;subst g1
   rw [y2] at g2;injection g2 with g2;subst g2
   exact (hrel ht2 v2).2.2 (nA l2) (hB▸z1 l1)
  ·rw [y1] at g1;injection g1 with g1;subst g1
   rw [y2] at g2;injection g2 with g2;subst g2
   exact hs.inj b1 b2 L1 L2 o1' o2' u1 u2 v1 v2 l1 l2 hB
def RowRunsX(P:Program)(laid:List (Nat × AObj))(f:Nat)(k:Key)(r:MRow):Prop:=r.okX P laid=true∧∃ n,∀ c ∈ picks r.pre,runF P (covers r) n (startM P laid f r.args c k)=true
omit H in
theorem tF{args:List AV}{h:Heap}{x:AV × Heap}:∀ {rows:List MRow},mrowX args h rows=some x→∃ r,r ∈ rows∧tD r args h=some x
 | [],e=>by cases e
 | r::rs,e=>by
  unfold mrowX at e
  cases ha:tD r args h with
  | some y=>
   rw [ha] at e
   have e:some y=some x:=e
   exact⟨r,List.mem_cons_self ..,by rw [ha,e]⟩
  | none=>
   rw [ha] at e
   obtain⟨q,h1,h2⟩:=tF (rows:=rs) e
   exact⟨q,List.mem_cons_of_mem _ h1,h2⟩
theorem mprimX_ok(hR:RowsOk P)(hF:P.follows .mixedOrders=true)(h64:P.globals.size≤64){laid:List (Nat × AObj)}{tot:Nat→Nat}{f:Nat}{k:Key}{rows:List MRow}(hrows:∀ r ∈ rows,RowRunsX P laid f k r){b:Base}(hW:b.Keeps P laid tot)
  (hS:∀ b':Base,b'.Keeps P laid tot→(∀ g v,g < P.globals.size→b.w.cell? ⟨g,0,none⟩=some v→b'.w.cell? ⟨g,0,none⟩=some v)→SumOk P b'):PrimOk P b f (fun args h=>mrowX args h rows):=by
 intro ρ h w args A v h' hs hr he
 obtain⟨r,hm,ha⟩:=tF he
 obtain⟨hok,n,hrun⟩:=hrows r hm
 exact G4 hR hF h64 hW hS hok hrun hs hr ha
def rowsX(P:Program)(laid:List (Nat × AObj))(f:Nat)(k:Key)(n:Nat):List MRow→Bool
 | []=>true
 | r::rs=>cond (r.okX P laid) (cond ((picks r.pre).all fun c=>runF P (covers r) n (startM P laid f r.args c k)) (rowsX P laid f k n rs) false) false
theorem rowsX_ok{laid:List (Nat × AObj)}{f n:Nat}{k:Key}:∀ {rs:List MRow},rowsX P laid f k n rs=true→∀ r ∈ rs,RowRunsX P laid f k r
 | [],_,r,hr=>by cases hr
 | q::rs,h,r,hr=>by
  unfold rowsX at h
  obtain⟨h1,h⟩:=ad h
  obtain⟨h2,h3⟩:=ad h
  cases hr with
  | head=>exact⟨h1,n,List.all_eq_true.1 h2⟩
  | tail _ hr=>exact rowsX_ok h3 r hr
end
end Go.VM
namespace Go.VM
def updS(l:List (Key × AObj)):RT AObj→RT AObj:=List.rec (motive:=fun _=>RT AObj→RT AObj) (fun t=>t) (fun p _ ih t=>qe p.2 p.1 t (fun t=>ih t)) l
def lrS(S:RT AObj)(keep:AObj→Bool)(ih:List Key→RT Key→List (Key × AObj))(todo:List Key)(seen:RT Key):List (Key × AObj):=match todo with
 | []=>[]
 | b::r=>match seen.get b with
  | some _=>ih r seen
  | none=>match S.get b with
   | some o=>cond (keep o) (qe b b seen (fun seen=>(b,o)::ih (cat r (ksO o)) seen)) (ih r seen)
   | none=>ih r seen
def lrN(S:RT AObj)(keep:AObj→Bool)(n:Nat):List Key→RT Key→List (Key × AObj):=Nat.rec (motive:=fun _=>List Key→RT Key→List (Key × AObj)) (fun _ _=>[]) (fun _ ih=>lrS S keep ih) n
def lr(S:RT AObj)(args:List AV):List (Key × AObj):=lrN S (fun _=>true) 100000 (ksL (ksV 20) args) RT.nil
def Kd(n:Nat):List Nat→Bool
 | []=>false
 | a::r=>cond (Nat.beq a n) true (Kd n r)
def isCp(ts:List Nat)(o:AObj):Bool:=match o with
 | .cells e _ _ _=>Kd e ts
 | .map _ _=>true
 | .lmap _=>true
 | _=>false
def shK(k:Key):Key:=match k with | ⟨a,b,c,d,_⟩=>⟨a,b,c,d,.d2⟩
def shL:List (Key × AObj)→RT Key→RT Key
 | [],t=>t
 | p::r,t=>qe (shK p.1) p.1 t (fun t=>shL r t)
def Ke:List Key→RT Key→RT Key
 | [],t=>t
 | b::r,t=>qe (shK b) b t (fun t=>Ke r t)
def rnP(R:RT Key):List (Key × AObj)→List (Key × AObj)
 | []=>[]
 | p::r=>(tK R p.1,rO (tK R) p.2)::rnP R r
def HZ(R:RT Key)(T:RT AObj):List Key→List (Key × AObj)
 | []=>[]
 | b::r=>match T.get b with
  | some o=>(tK R b,rO (tK R) o)::HZ R T r
  | none=>HZ R T r
def dR(ts:List Nat)(m:Key)(S T:RT AObj)(args:List AV)(val:AV)(R C:List Key)(E:List (Key × AObj)):MRow:=
 (fun cp:List (Key × AObj)=>(fun Rt:RT Key=>MRow.mk args (lr S args) val (cat (rnP Rt cp) (cat (HZ Rt T R) (cat (HZ Rt T C) E)))) (Ke R (shL cp RT.nil))) (lrN T (isCp ts) 100000 [m] RT.nil)
def Jl(o:AObj):Bool:=match o with
 | .dom _=>false
 | _=>true
def tR(S:RT AObj)(n:Key):MRow:=
 (fun L:List (Key × AObj)=>MRow.mk [.ptr n 0] (lr S [.ptr n 0]) (.ptr (shK n) 0) (rnP (shL L RT.nil) L)) (lrN S Jl 100000 [n] RT.nil)
def cR(ts:List Nat)(t:Key)(S:RT AObj)(n:Key):MRow:=
 (fun S:RT AObj=>(fun cp:List (Key × AObj)=>MRow.mk [.ptr n 0] (lr S [.ptr n 0]) (.ptr (shK n) 0) (rnP (shL cp RT.nil) cp)) (lrN S (isCp ts) 100000 [n] RT.nil)) (S.set .dead t)
def nR(T:RT AObj)(args:List AV)(val:AV)(t:Key):MRow:=MRow.mk args [] val (lr T [.ptr t 0])
end Go.VM
namespace Go.VM
open Go.RowKit
def d8(b:Key)(d:Nat):List (AV × AV × Nat)→List (AV × AV × Nat)
 | []=>[]
 | e::r=>(c7 b d e.1,e.2.1,e.2.2)::d8 b d r
def nB:List (AV × AV × Nat)→List AV
 | []=>[]
 | e::r=>e.1::nB r
def rowAt(b:Key)(es:List (AV × AV × Nat))(d:Nat):Option AV:=(jg (d8 b d es)).bind fun ks=>cond (lS ks) (some (.tup (cf ks))) none
def BH(e:Nat)(o:Option AV)(h:Heap):Option (AV × Heap):=match o with
 | some (.tup cs)=>fQ e cs h
 | _=>none
def qL(e:Nat)(es:List (AV × AV × Nat))(h:Heap):Option (AV × Heap):=match jA (nB es) with
 | some b=>BH e ((dt (rowAt b es) (b9 (h.get b))).bind (nu b (b9 (h.get b)))) h
 | none=>none
def kM(e clock:Nat)(es:List (AV × AV × Nat))(h:Heap):Option (AV × Heap):=cond (cond (gl clock es) (Nat.ble (len es) 100000) false) (qL e es h) none
def fu(e:Nat)(es:List (AV × AV))(h:Heap):Option (AV × Heap):=cond (Nat.ble (len es) 100000) (qL e (iW es) h) none
def orTwo(x y:Option (AV × Heap)):Option (AV × Heap):=match x with
 | some p=>some p
 | none=>y
def sortedStrT(it:Nat→Bool)(e:Nat)(args:List AV)(h:Heap):Option (AV × Heap):=orTwo (sortedStr it e args h) (cD kM fu it e args h)
theorem lZ{ρ:Rho}{b:Key}{L:Loc}(hb:ρ b=some L):∀ {es:List (AV × AV × Nat)} {E:List MapEntry},ERel ρ es E→ERel ρ (d8 b L.base es) E
 | _,_,.nil=>.nil
 | _,_,.cons _ _ _ _ _ _ _ hk hv hr=>.cons _ _ _ _ _ _ _ (gD hb hk) hv (lZ hb hr)
theorem tG{b:Key}{d:Nat}:∀ {es:List (AV × AV × Nat)},(d8 b d es).length=es.length
 | []=>rfl
 | _::r=>by show (d8 b d r).length+1=_;rw [tG];rfl
theorem kP{ρ:Rho}:∀ {es:List (AV × AV × Nat)} {E:List MapEntry},ERel ρ es E→RelL ρ (nB es) (E.map (·.key))
 | _,_,.nil=>.nil
 | _,_,.cons _ _ _ _ _ _ _ hk _ hr=>.cons _ _ _ _ hk (kP hr)
theorem wm{ρ:Rho}{b:Key}:∀ {vs:List AV},(∀ v ∈ vs,∃ V,Rel ρ v V)→jA vs=some b→∃ L,ρ b=some L
 | [],_,h=>by cases h
 | v::r,hv,h=>by
  obtain⟨V,hV⟩:=hv v (List.mem_cons_self ..)
  cases hV<;>first
   | exact wm (fun x hx=>hv x (List.mem_cons_of_mem _ hx)) h
   | (cases h;exact⟨_,by assumption⟩)
theorem Sim.turn{w0:Base}{ρ:Rho}{h1 h2:Heap}{w:World}(hs:Sim w0 ρ h1 w){k:Key}{o1 o2:AObj}(g1:h1.get k=some o1)(g2:h2.get k=some o2)(hoth:∀ b,k≠b→h2.get b=h1.get b)(hl:o2.live=o1.live)
  (hrel:∀ L,ρ k=some L→ObjRel w0.F ρ L w.heap[L.B]? o1→ObjRel w0.F ρ L w.heap[L.B]? o2):Sim w0 ρ h2 w:=by
 refine⟨hs.os,hs.out,hs.size,hs.old,hs.sub,fun b L e=>?_,fun b b' L L' o o' e e' g g' l l' hB=>?_⟩
 ·obtain⟨o,ho,hlt,hr⟩:=hs.obj b L e
  by_cases hk:k=b
  ·subst hk
   rw [g1] at ho;cases ho
   exact⟨o2,g2,hlt,hrel L e hr⟩
  ·exact⟨o,by rw [hoth b hk];exact ho,hlt,hr⟩
 ·have key:∀ bx ox,h2.get bx=some ox→ox.live=true→∃ oy,h1.get bx=some oy∧oy.live=true:=by
   intro bx ox g l
   by_cases hk:k=bx
   ·subst hk;rw [g2] at g;cases g;exact⟨o1,g1,by rw [←hl];exact l⟩
   ·rw [hoth bx hk] at g;exact⟨ox,g,l⟩
  obtain⟨x,gx,lx⟩:=key b o g l
  obtain⟨y,gy,ly⟩:=key b' o' g' l'
  exact hs.inj b b' L L' x y e e' gx gy lx ly hB
theorem tH{ρ:Rho}:∀ {x:List AV} {X:List Value},RelL ρ x X→x.length=X.length
 | _,_,.nil=>rfl
 | _,_,.cons _ _ _ _ _ hr=>by simp [tH hr]
theorem G5{P:Program}{w0:Base}{f e:Nat}{A:List Value}{ρ:Rho}{h h':Heap}{w:World}{v:AV}{b:Key}{L:Loc}(hb:ρ b=some L){cs cj:List AV}(hcs:∀ (ρ' ρ1:Rho) (Vs:List Value),ρ' b=some L→RelL ρ1 cj Vs→RelL ρ' cs Vs)(hlen:cs.length=cj.length)
  (hcall:∀ v' h1,fQ e cj h=some (v',h1)→Calls P f ⟨A⟩ w fun e w'=>∃ ρ' V,e=.returned V∧Sub ρ ρ'∧Kept ρ h ρ' h1∧Rel ρ' v' V∧Sim w0 ρ' h1 w') (he:fQ e cs h=some (v,h')):
  Calls P f ⟨A⟩ w fun e w'=>∃ ρ' V,e=.returned V∧Sub ρ ρ'∧Kept ρ h ρ' h'∧Rel ρ' v V∧Sim w0 ρ' h' w':=by
 cases cs with
 | nil=>
  cases cj with
  | nil=>exact hcall v h' he
  | cons _ _=>simp at hlen
 | cons c r=>
  cases cj with
  | nil=>simp at hlen
  | cons c2 r2=>
   obtain⟨t,nk⟩:=h
   have he:ak (len (c::r)) (fun n=>Je ⟨t,nk⟩ (.cells e (c::r) true 0) (fun b=>.slice b 0 n (.more 1)))=some (v,h'):=he
   rw [af,aG] at he
   have he:sZ t nk (.cells e (c::r) true 0) (fun b=>.slice b 0 (c::r).length (.more 1))=some (v,h'):=he
   unfold sZ at he
   cases hk:t.get nk with
   | some _=>rw [hk] at he;cases he
   | none=>
    rw [hk] at he
    have he:some (AV.slice nk 0 (c::r).length (.more 1),Heap.mk (t.set (.cells e (c::r) true 0) nk) (bV nk))=some (v,h'):=he
    injection he with he;injection he with h1 h2;subst h1;subst h2
    have hj:fQ e (c2::r2) ⟨t,nk⟩=some (AV.slice nk 0 (c2::r2).length (.more 1),Heap.mk (t.set (.cells e (c2::r2) true 0) nk) (bV nk)):=by
     show ak (len (c2::r2)) (fun n=>sZ t nk (.cells e (c2::r2) true 0) (fun b=>.slice b 0 n (.more 1)))=_
     rw [af,aG]
     unfold sZ
     rw [hk]
    refine (hcall _ _ hj).mono ?_
    rintro en w' ⟨ρ',V,rfl,s1,s2,s3,s4⟩
    refine⟨ρ',V,rfl,s1,?_,by rw [hlen];exact s3,?_⟩
    ·intro k o g e
     have hne:nk≠k:=by
      rintro rfl
      have g:t.get nk=some o:=g
      rw [hk] at g;cases g
     obtain⟨e1,g1⟩:=s2 k o g e
     refine⟨e1,?_⟩
     show (t.set _ nk).get k=some o
     rw [RT.get_set_other _ _ _ _ hne]
     exact g
    ·refine s4.turn (k:=nk) (o1:=.cells e (c2::r2) true 0) (o2:=.cells e (c::r) true 0) (RT.get_set_same _ _ _) (RT.get_set_same _ _ _) (fun k hne=>?_) rfl (fun M _ hr=>?_)
     ·show (t.set _ nk).get k=(t.set _ nk).get k
      rw [RT.get_set_other _ _ _ _ hne,RT.get_set_other _ _ _ _ hne]
     ·obtain⟨a,C,q,e1,e2,e3,⟨e4,e5⟩,e6,e7⟩:=hr
      refine⟨a,C,q,e1,e2,e3,⟨by rw [hlen];exact e4,?_⟩,(fun h=>by cases h),(fun _ h=>by cases h)⟩
      rw [hlen]
      exact hcs ρ' ρ' _ (s1 _ _ hb) e5
theorem iH{P:Program}{w0:Base}{f e:Nat}{it:Nat→Bool}(hc:SortedAt P w0 f e it){ρ:Rho}{h h':Heap}{w:World}{v:AV}(hs:Sim w0 ρ h w){g:Nat}(hg:it g=true){Lm Lb:Loc}(hlt:Lm.B < w.heap.size)(hcell:w.cell? ⟨Lm.B,0,none⟩=some (.map (some Lb.B))){E:Array MapEntry}{clock:Nat}(hOb:w.heap[Lb.B]?=some (.map E clock)){es es':List (AV × AV × Nat)}(hE:ERel ρ es' E.toList)(hstp:Stamp E.toList clock)
  (hp:∀ b d,((d8 b d es).map cE).Perm ((d8 b d es').map cE)∧∀ Q:AV→Prop,(∀ e ∈ d8 b d es,Q e.1)→∀ e ∈ d8 b d es',Q e.1) (hrel:∀ v ∈ nB es,∃ V,Rel ρ v V) (hlen:es'.length≤100000) (he:qL e es h=some (v,h')):
  Calls P f #[.func (.func g) #[] #[.pointer (some ⟨Lm.B,0,none⟩)]] w fun e w'=>∃ ρ' V,e=.returned V∧Sub ρ ρ'∧Kept ρ h ρ' h'∧Rel ρ' v V∧Sim w0 ρ' h' w':=by
 unfold qL at he
 cases hk:jA (nB es) with
 | none=>rw [hk] at he;cases he
 | some b=>
  rw [hk] at he
  obtain⟨L,hL⟩:=wm hrel hk
  have he:BH e ((dt (rowAt b es) (b9 (h.get b))).bind (nu b (b9 (h.get b)))) h=some (v,h'):=he
  cases hl:dt (rowAt b es) (b9 (h.get b)) with
  | none=>rw [hl] at he;cases he
  | some vs=>
   rw [hl] at he
   have he:BH e (nu b (b9 (h.get b)) vs) h=some (v,h'):=he
   cases hj:nu b (b9 (h.get b)) vs with
   | none=>rw [hj] at he;cases he
   | some u=>
    rw [hj] at he
    have hne:b9 (h.get b)≠[]:=by
     intro e2
     rw [e2] at hl hj
     have hl:some ([]:List AV)=some vs:=hl
     injection hl with hl;subst hl
     cases hj
    obtain⟨_,hm⟩:=dU hs hL hne
    obtain⟨x,hn,hx⟩:=jp hl _ hm
    unfold rowAt at hx
    cases hso:jg (d8 b L.base es) with
    | none=>rw [hso] at hx;cases hx
    | some ks=>
     rw [hso] at hx
     have hx:cond (lS ks) (some (AV.tup (cf ks))) none=some x:=hx
     cases hasc:lS ks with
     | false=>rw [hasc] at hx;cases hx
     | true=>
      rw [hasc] at hx
      have hx:some (AV.tup (cf ks))=some x:=hx
      injection hx with hx;subst hx
      cases u with
      | tup cs=>
       have he:fQ e cs h=some (v,h'):=he
       have hcs:∀ (ρ' ρ1:Rho) (Vs:List Value),ρ' b=some L→RelL ρ1 (cf ks) Vs→RelL ρ' cs Vs:=by
        intro ρ' ρ1 Vs hb hv
        have:=wh hb hn hj (.tup _ _ hv:Rel ρ1 (.tup (cf ks)) (.tuple ⟨Vs⟩))
        cases this with
        | tup _ _ h=>exact h
       obtain⟨hperm,hstr⟩:=fj hso
       obtain⟨p1,p2⟩:=hp b L.base
       have hks:∀ p ∈ ks,p.2 < 256 ^ p.1:=by
        have hbnd:=((lZ hL hE).strs (p2 (fun k=>∃ l c,k=.str l c∧l≤1000000) hstr)).2
        intro p hp
        obtain⟨x,hx,rfl⟩:=List.mem_map.1 ((hperm.trans p1).mem_iff.1 hp)
        exact (hbnd x hx).1
       have hlen2:cs.length=(cf ks).length:=by
        have h1:RelL ρ (cf ks) (ks.map fun p=>Value.string (strOf p.1 p.2)):=by rw [kI];exact oN hks
        rw [tH (hcs ρ ρ _ hL h1),tH h1]
       exact G5 (A:=[.func (.func g) #[] #[.pointer (some ⟨Lm.B,0,none⟩)]]) hL hcs hlen2 (fun v' h1 hr=>fT hc hs hg hlt hcell hOb (lZ hL hE) hstp (hperm.trans p1) (p2 (fun k=>∃ l c,k=.str l c∧l≤1000000) hstr) hasc (by rw [tG];exact hlen) hr) he
      | _=>cases he
theorem pa{ρ:Rho}:∀ {x:List AV} {X:List Value},RelL ρ x X→∀ v ∈ x,∃ V,Rel ρ v V
 | _,_,.nil,_,h=>by cases h
 | _,_,.cons _ V _ _ hv hr,v,h=>by
  cases h with
  | head=>exact⟨V,hv⟩
  | tail _ h=>exact pa hr v h
theorem pd(b:Key)(d:Nat):∀ es:List (AV × AV × Nat),d8 b d es=es.map fun e=>(c7 b d e.1,e.2.1,e.2.2)
 | []=>rfl
 | e::r=>by show (c7 b d e.1,e.2.1,e.2.2)::d8 b d r=_;rw [pd b d r];rfl
theorem tJ:∀ es:List (AV × AV × Nat),nB es=es.map (·.1)
 | []=>rfl
 | e::r=>by show e.1::nB r=_;rw [tJ r];rfl
theorem qg{es:List (AV × AV)}{es':List (AV × AV × Nat)}(hp:(es'.map fun e=>(e.1,e.2.1)).Perm es)(b:Key)(d:Nat):
  ((d8 b d (iW es)).map cE).Perm ((d8 b d es').map cE)∧∀ Q:AV→Prop,(∀ e ∈ d8 b d (iW es),Q e.1)→∀ e ∈ d8 b d es',Q e.1:=by
 rw [nc,pd,pd]
 refine⟨?_,fun Q hQ e he=>?_⟩
 ·have h1:=(hp.map fun e:AV × AV=>(eF (c7 b d e.1)).getD (0,0)).symm
  rw [List.map_map] at h1
  rw [List.map_map,List.map_map,List.map_map]
  exact h1
 ·obtain⟨x,hx,rfl⟩:=List.mem_map.1 he
  have h1:(x.1,x.2.1) ∈ es:=hp.mem_iff.1 (List.mem_map.2 ⟨x,hx,rfl⟩)
  exact hQ (c7 b d x.1,x.2.1,0) (List.mem_map.2 ⟨(x.1,x.2.1,0),List.mem_map.2 ⟨_,h1,rfl⟩,rfl⟩)
theorem wn{ρ:Rho}{es:List (AV × AV)}{es':List (AV × AV × Nat)}{X:List Value}(hp:(es'.map fun e=>(e.1,e.2.1)).Perm es)(hr:RelL ρ (nB es') X):∀ v ∈ nB (iW es),∃ V,Rel ρ v V:=by
 intro v hv
 rw [nc,tJ,List.map_map] at hv
 obtain⟨e,he,rfl⟩:=List.mem_map.1 hv
 obtain⟨x,hx,h⟩:=List.mem_map.1 (hp.mem_iff.2 he)
 refine pa hr _ ?_
 rw [tJ]
 exact List.mem_map.2 ⟨x,hx,by subst h;rfl⟩
theorem tL{P:Program}{w0:Base}{f e:Nat}{it:Nat→Bool}(hc:SortedAt P w0 f e it):PrimOk P w0 f (cD kM fu it e):=by
 intro ρ h w args A v h' hs hr he
 unfold cD at he
 split at he
 ·rename_i g bm
  cases hg:it g with
  | false=>rw [hg] at he;cases he
  | true=>
  rw [hg,cond_true] at he
  unfold kH at he
  split at he
  ·rename_i e1 m fz hbm
   cases hr with
   | cons _ F _ R hF hR=>
   cases hR
   cases hF with
   | func _ _ _ A1 B1 ha hb=>
   cases ha
   cases hb with
   | cons _ B2 _ R2 hB hR2=>
   cases hR2
   cases hB with
   | ptr _ _ Lm hLm=>
   obtain⟨o,ho,hlt,hobj⟩:=hs.obj bm Lm hLm
   rw [hbm] at ho
   injection ho with ho;subst ho
   obtain⟨_,C,q,hO,hsz,_,⟨hcb,hcr⟩,hbase,_⟩:=hobj
   obtain⟨hb0,htot⟩:=hbase rfl
   have hA:(⟨[.func (.func g) ⟨[]⟩ ⟨[.pointer (some ⟨Lm.B,Lm.base+0,none⟩)]⟩]⟩:Array Value)=#[.func (.func g) #[] #[.pointer (some ⟨Lm.B,0,none⟩)]]:=by rw [hb0]
   rw [hA]
   rw [hb0] at hcr
   have hcell:∀ V,Rel ρ m V→C.toList=[V]→w.cell? ⟨Lm.B,0,none⟩=some V:=by
    intro V _ hC
    have:C=#[V]:=by rw [←Array.toList_inj];exact hC
    simp [World.cell?,hO,this]
   obtain⟨V,hC,hV⟩:∃ V,C.toList=[V]∧Rel ρ m V:=by
    have hlen:C.toList.length=1:=by rw [Array.length_toList,hsz,htot];rfl
    rw [List.drop_zero,List.take_of_length_le (by rw [hlen];simp)] at hcr
    generalize C.toList=l at hcr
    cases hcr with
    | cons _ V _ R h1 h2=>cases h2;exact⟨V,rfl,h1⟩
   have hcell:=hcell V hV hC
   unfold kG at he
   split at he
   ·rename_i b
    cases hV with
    | map _ Lb hLb=>
    split at he
    ·rename_i es clock hgb
     obtain⟨o,ho,hltb,hobj⟩:=hs.obj b Lb hLb
     rw [hgb] at ho
     injection ho with ho;subst ho
     obtain⟨_,E,hOb,hE⟩:=hobj
     unfold kM at he
     cases hc2:cond (gl clock es) (Nat.ble (len es) 100000) false with
     | false=>rw [hc2] at he;cases he
     | true=>
     rw [hc2,cond_true] at he
     obtain⟨hborn,hlen⟩:=ad hc2
     obtain⟨hb1,hb2⟩:=ad (show cond (qa clock (cW es)) (gu (cW es)) false=true from hborn)
     have hlen:=Nat.le_of_ble_eq_true hlen
     rw [aG] at hlen
     have hst:Stamp E.toList clock:=by
      refine⟨fun x hx=>?_,?_⟩
      ·have h1:x.born ∈ E.toList.map (·.born):=List.mem_map.2 ⟨x,hx,rfl⟩
       rw [hE.borns,←cg] at h1
       exact fo hb1 _ h1
      ·rw [hE.borns,←cg];exact dx hb2
     exact iH hc hs hg hlt hcell hOb hE hst (fun _ _=>⟨.refl _,fun _ h=>h⟩) (pa (kP hE)) hlen he
    ·rename_i es hgb
     obtain⟨o,ho,hltb,hobj⟩:=hs.obj b Lb hLb
     rw [hgb] at ho
     injection ho with ho;subst ho
     obtain⟨_,E,clock,hOb,⟨es',hp,hE⟩,hst⟩:=hobj
     unfold fu at he
     cases hc2:Nat.ble (len es) 100000 with
     | false=>rw [hc2] at he;cases he
     | true=>
     rw [hc2,cond_true] at he
     have hlen:=Nat.le_of_ble_eq_true hc2
     rw [aG] at hlen
     exact iH hc hs hg hlt hcell hOb hE hst (qg hp) (wn hp (kP hE)) (by have:=hp.length_eq;rw [List.length_map] at this;omega) he
    ·rename_i es0 ck hgb
     obtain⟨hltb,E,clock,es',hOb,hp,hE,hst⟩:=mU hs hLb hgb
     generalize eI es0=es at hp he
     unfold fu at he
     cases hc2:Nat.ble (len es) 100000 with
     | false=>rw [hc2] at he;cases he
     | true=>
     rw [hc2,cond_true] at he
     have hlen:=Nat.le_of_ble_eq_true hc2
     rw [aG] at hlen
     exact iH hc hs hg hlt hcell hOb hE hst (qg hp) (wn hp (kP hE)) (by have:=hp.length_eq;rw [List.length_map] at this;omega) he
    ·cases he
   ·have he:some (AV.nilSlice,h)=some (v,h'):=he
    injection he with he;injection he with h1 h2;subst h1;subst h2
    cases hV
    refine (hc.nil_ g hg w Lm.B hs.size hlt hcell).mono ?_
    rintro en w' ⟨rfl,hbel⟩
    exact⟨ρ,_,rfl,Sub.refl _,Kept.refl _ _,.nilSlice,hs.grew (dk hbel)⟩
   ·cases he
  ·cases he
 ·cases he
theorem sortedStrT_ok{P:Program}{w0:Base}{f e:Nat}{it:Nat→Bool}(hc:SortedAt P w0 f e it):PrimOk P w0 f (sortedStrT it e):=by
 intro ρ h w args A v h' hs hr he
 have he:orTwo (sortedStr it e args h) (cD kM fu it e args h)=some (v,h'):=he
 cases hx:sortedStr it e args h with
 | some p=>
  rw [hx] at he
  have he:some p=some (v,h'):=he
  injection he with he;subst he
  exact sortedStr_ok hc ρ h w args A v h' hs hr hx
 | none=>
  rw [hx] at he
  exact tL hc ρ h w args A v h' hs hr he
end Go.VM
namespace Go.VM
structure ORow where
 args:List AV
 pre:List (Key × AObj)
 val:AV
def wV(f:Key→Option Key)(x y:AV):Bool:=match x with
 | .rng lo hi=>(match y with
  | .int .i64 (.ofNat n)=>cond (Nat.ble lo n) (Nat.blt n hi) false
  | .rng a b=>cond (Nat.ble lo a) (Nat.ble b hi) false
  | _=>false)
 | x=>mV f 20 x y
def xm(h:Heap)(k:RT Key→Option (AV × Heap)):List (Key × AObj)→RT Key→Option (AV × Heap)
 | [],σ=>k σ
 | p::r,σ=>match σ.get p.1 with
  | none=>none
  | some b=>match p.2,h.get b with
   | .fixed e cs,some (.cells e2 cs2 _ _)=>xj (qx (jl 20) cs cs2) σ (fun σ=>cond (cond (Nat.beq e e2) (mLs (wV σ.get) cs cs2) false) (xm h k r σ) none)
   | _,_=>none
def tM(r:ORow)(args:List AV)(h:Heap):Option (AV × Heap):=xj (qx (jl 20) r.args args) RT.nil (fun σ=>cond (mLs (sV σ.get 20) r.args args) (xm h (fun σ=>cond (xe σ RT.nil r.pre RT.nil) (some (r.val,h)) none) r.pre σ) none)
def orowP(args:List AV)(h:Heap):List ORow→Option (AV × Heap)
 | []=>none
 | r::rs=>match tM r args h with
  | some x=>some x
  | none=>orowP args h rs
def I0(o:AObj):Bool:=match o with
 | .fixed _ _=>true
 | _=>false
def xn(S:Key→Bool)(st:RT AObj):List (Key × AObj)→Bool
 | []=>true
 | p::r=>cond (cond (I0 p.2) (cond (cu (e9 S 20) (cellsF p.2)) (cond (v8 (st.get p.1)) false true) false) false) (xn S st r) false
where cellsF (o:AObj):List AV:=match o with
 | .fixed _ cs=>cs
 | _=>[]
def jw(r:ORow):RT AObj:=fG r.pre RT.nil
def ORow.okO(P:Program)(laid:List (Nat × AObj))(r:ORow):Bool:=
 cond (cu (e9 (inT (jw r)) 20) r.args) (cond (xn (inT (jw r)) (startT laid P.globals.size) r.pre) (lX r.pre RT.nil) false) false
def xo(r:ORow)(v:AV)(_:Heap):Bool:=mV (fun _=>none) 20 r.val v
section
variable {ρ ρ':Rho}
theorem Kf{f:Key→Option Key}(hf:∀ a b L,f a=some b→ρ b=some L→ρ' a=some L)(x y:AV)(V:Value)(h:wV f x y=true)(hr:Rel ρ y V):Rel ρ' x V:=by
 unfold wV at h
 split at h
 ·rename_i lo hi
  split at h
  ·rename_i n
   obtain⟨h1,h2⟩:=ad h
   cases hr with
   | int _ _=>exact .rng lo hi n (Nat.le_of_ble_eq_true h1) (cb h2)
  ·rename_i a b
   obtain⟨h1,h2⟩:=ad h
   cases hr with
   | rng _ _ n h3 h4=>exact .rng lo hi n (Nat.le_trans (Nat.le_of_ble_eq_true h1) h3) (Nat.lt_of_lt_of_le h4 (Nat.le_of_ble_eq_true h2))
  ·cases h
 ·exact lz hf 20 _ _ _ h hr
end
theorem qh{h:Heap}{k:RT Key→Option (AV × Heap)}{x:AV × Heap}:∀ {l:List (Key × AObj)} {σ:RT Key},xm h k l σ=some x→∃ σ',tB σ σ'∧k σ'=some x∧∀ p ∈ l,∃ b e cs cs2 opn fz σ'',p.2=.fixed e cs∧σ'.get p.1=some b∧h.get b=some (.cells e cs2 opn fz)∧tB σ'' σ'∧mLs (wV σ''.get) cs cs2=true
 | [],σ,e=>⟨σ,fun _ _ h=>h,e,fun p hp=>by cases hp⟩
 | p::r,σ,e=>by
  unfold xm at e
  cases hb:σ.get p.1 with
  | none=>rw [hb] at e;cases e
  | some b=>
   rw [hb] at e
   dsimp only at e
   split at e
   ·rename_i e1 cs e2 cs2 opn fz hp2 hg
    rw [kL] at e
    generalize hσ1:tA (qx (jl 20) cs cs2) σ=σ1 at e
    cases hc:cond (Nat.beq e1 e2) (mLs (wV σ1.get) cs cs2) false with
    | false=>rw [hc] at e;cases e
    | true=>
     rw [hc,cond_true] at e
     obtain⟨h1,h2⟩:=ad hc
     have h1:=Nat.eq_of_beq_eq_true h1
     subst h1
     obtain⟨σ',q1,q2,q3⟩:=qh e
     have hs:tB σ σ1:=hσ1▸jt _ σ
     refine⟨σ',fun a c hc=>q1 a c (hs a c hc),q2,fun q hq=>?_⟩
     cases hq with
     | head=>exact⟨b,e1,cs,cs2,opn,fz,σ1,hp2,q1 _ _ (hs _ _ hb),hg,q1,h2⟩
     | tail _ hq=>exact q3 q hq
   ·cases e
theorem qi{S:Key→Bool}{st:RT AObj}:∀ {l:List (Key × AObj)},xn S st l=true→∀ p ∈ l,∃ e cs,p.2=.fixed e cs∧cu (e9 S 20) cs=true∧st.get p.1=none
 | [],_,p,hp=>by cases hp
 | q::r,h,p,hp=>by
  unfold xn at h
  obtain⟨h1,h2⟩:=ad h
  cases hp with
  | tail _ hp=>exact qi h2 p hp
  | head=>
   obtain⟨h3,h4⟩:=ad h1
   obtain⟨h5,h6⟩:=ad h4
   obtain⟨a,o⟩:=q
   cases o<;>try (cases h3;done)
   rename_i e cs
   refine⟨e,cs,rfl,h5,?_⟩
   cases hs:st.get a with
   | none=>rfl
   | some x=>
    have h6:cond (v8 (st.get a)) false true=true:=h6
    rw [hs] at h6;cases h6
section
variable [H:Hook] {P:Program}
theorem I1(hR:RowsOk P)(hF:P.follows .mixedOrders=true)(h64:P.globals.size≤64){laid:List (Nat × AObj)}{tot:Nat→Nat}{W0:Base}(hW:W0.Keeps P laid tot)
  (hS:∀ b:Base,b.Keeps P laid tot→(∀ g v,g < P.globals.size→W0.w.cell? ⟨g,0,none⟩=some v→b.w.cell? ⟨g,0,none⟩=some v)→SumOk P b)
  {f n:Nat} {r:ORow} {k:Key} (hok:r.okO P laid=true) (hrun:runF P (xo r) n (startM P laid f r.args r.pre k)=true)
  {ρ:Rho} {h:Heap} {w:World} {args:List AV} {A:List Value} (hs:Sim W0 ρ h w) (hr:RelL ρ args A) {x:AV × Heap} (ha:tM r args h=some x):
  Calls P f ⟨A⟩ w fun e w'=>∃ ρ' V,e=.returned V∧Sub ρ ρ'∧Kept ρ h ρ' x.2∧Rel ρ' x.1 V∧Sim W0 ρ' x.2 w':=by
 unfold tM at ha
 rw [kL] at ha
 generalize tA (qx (jl 20) r.args args) RT.nil=σ0 at ha
 cases hargs0:mLs (sV σ0.get 20) r.args args with
 | false=>rw [hargs0] at ha;cases ha
 | true=>
 rw [hargs0,cond_true] at ha
 obtain⟨σ,hsub0,ha,hm⟩:=qh ha
 cases hinjσ:xe σ RT.nil r.pre RT.nil with
 | false=>rw [hinjσ] at ha;cases ha
 | true=>
 rw [hinjσ,cond_true] at ha
 injection ha with ha
 subst ha
 unfold ORow.okO at hok
 obtain⟨hargs,hok⟩:=ad hok
 obtain⟨hpo,hnd⟩:=ad hok
 have hnd:=(jm hnd).2
 have hT:∀ p ∈ r.pre,(jw r).get p.1=some p.2:=iD hnd
 have hTs:∀ {b o},(jw r).get b=some o→(b,o) ∈ r.pre:=fun {b o} e=>by
  rcases cX e with h1 | ⟨_,h1⟩
  ·exact h1
  ·rw [RT.get_nil] at h1;cases h1
 have hpk:=qi hpo
 obtain⟨_,hi2⟩:=gR hinjσ
 let ρσ:Rho:=fun a=>(σ.get a).bind ρ
 have hσρ:∀ {σ':RT Key},tB σ' σ→∀ a b L,σ'.get a=some b→ρ b=some L→ρσ a=some L:=fun {σ'} hsub a b L e1 e2=>by
  show (σ.get a).bind ρ=_
  rw [hsub a b e1];exact e2
 have hrσ:RelL ρσ r.args A:=dI (jr (hσρ hsub0) 20) hargs0 hr
 let ρK:Rho:=fun b=>match startRho tot P.globals.size b with
  | some L=>some L
  | none=>match (jw r).get b with
   | some _=>ρσ b
   | none=>none
 have laidw:LaidOk P laid tot w:=hW.world hs.size hs.old
 let w0:Base:=Base.at w (startRho tot P.globals.size)
 have hkeeps:w0.Keeps P laid tot:=.of_at laidw
 have hSum:=hS w0 hkeeps fun g v hg hc=>cell_keeps hW hc hg hs.old
 have hgk:∀ p ∈ r.pre,startRho tot P.globals.size p.1=none:=fun p hp=>by
  cases e:startRho tot P.globals.size p.1 with
  | none=>rfl
  | some L=>
   obtain⟨g,hg,hk,_⟩:=aE e
   obtain⟨_,_,_,_,h4⟩:=hpk p hp
   rw [hk,eU h64 hg] at h4;cases h4
 have hKp:∀ p ∈ r.pre,ρK p.1=ρσ p.1:=fun p hp=>by
  show (match startRho tot P.globals.size p.1 with | some L=>some L | none=>match (jw r).get p.1 with | some _=>ρσ p.1 | none=>none)=_
  rw [hgk p hp,hT p hp]
 have hKs:∀ {b L},startRho tot P.globals.size b=some L→ρK b=some L:=fun {b L} e=>by
  show (match startRho tot P.globals.size b with | some L=>some L | none=>match (jw r).get b with | some _=>ρσ b | none=>none)=_
  rw [e]
 have hKc:∀ {b L},ρK b=some L→startRho tot P.globals.size b=some L∨∃ o,(b,o) ∈ r.pre∧ρσ b=some L:=fun {b L} e=>by
  have e:(match startRho tot P.globals.size b with | some L=>some L | none=>match (jw r).get b with | some _=>ρσ b | none=>none)=some L:=e
  cases hst:startRho tot P.globals.size b with
  | some L'=>rw [hst] at e;injection e with e;subst e;exact .inl rfl
  | none=>
   rw [hst] at e
   cases hp:(jw r).get b with
   | none=>rw [hp] at e;cases e
   | some o=>rw [hp] at e;exact .inr ⟨o,hTs hp,e⟩
 have hS':∀ b L,inT (jw r) b=true→ρσ b=some L→ρK b=some L:=fun b L hb e=>by
  cases hp:(jw r).get b with
  | none=>unfold inT at hb;rw [hp] at hb;cases hb
  | some o=>rw [←e];exact hKp (b,o) (hTs hp)
 have hobj:∀ p ∈ r.pre,∀ L,ρσ p.1=some L→∃ b o,σ.get p.1=some b∧ρ b=some L∧h.get b=some o∧o.live=true∧¬ W0.F L.B∧L.B < w.heap.size∧ObjRel w0.F ρK L w.heap[L.B]? p.2:=fun p hp L e=>by
  obtain⟨b,e1,cs,cs2,opn,fz,σ'',q1,q2,q3,q4,q5⟩:=hm p hp
  have e:(σ.get p.1).bind ρ=some L:=e
  rw [q2] at e
  have e:ρ b=some L:=e
  obtain⟨o',g,hlt,ho⟩:=hs.obj b L e
  rw [q3] at g;injection g with g;subst g
  obtain⟨hN,C,q,hO,hsz,_,⟨hc1,hc2⟩,_⟩:=ho
  refine⟨b,_,q2,e,q3,rfl,hN,hlt,?_⟩
  obtain⟨e3,cs3,u1,u2,_⟩:=hpk p hp
  rw [q1] at u1;injection u1 with u1 u3;subst u1;subst u3
  rw [q1]
  have hl:=qJ q5
  refine⟨C,q,⟨_,hO⟩,hsz,by rw [hl];exact hc1,?_⟩
  rw [hl]
  exact RelL.withinF (Rel.within hS' 20) u2 (dI (Kf (hσρ q4)) q5 hc2)
 have hg0:∀ b,(bp r.pre ⟨startT laid P.globals.size,k⟩).get b=(fG r.pre (startT laid P.globals.size)).get b:=fun b=>by rw [p4];rfl
 have hin:∀ p ∈ r.pre,(bp r.pre ⟨startT laid P.globals.size,k⟩).get p.1=some p.2:=fun p hp=>by rw [hg0];exact iD hnd p hp
 have hs0:Sim w0 ρK (bp r.pre ⟨startT laid P.globals.size,k⟩) w:=by
  refine⟨rfl,rfl,Nat.le_refl _,fun _ _=>rfl,fun b L e=>hKs e,fun b L e=>?_,fun b b' L L' o o' e e' g g' l l' hB=>?_⟩
  ·rcases hKc e with e1 | ⟨o,hp,e1⟩
   ·obtain⟨g,hg,rfl,rfl⟩:=aE e1
    have hout:∀ p ∈ r.pre,p.1≠jy g:=fun p hp he=>by
     have:=hgk p hp
     rw [he,e1] at this;cases this
    refine⟨_,by rw [hg0,cG hout];exact eU h64 hg,Nat.lt_of_lt_of_le hg laidw.1,?_⟩
    cases hx:laid.lookup g with
    | none=>exact trivial
    | some o=>exact laidw.2 g o hg hx _ _
   ·obtain⟨_,_,_,_,_,_,_,hlt,hq⟩:=hobj _ hp L e1
    exact⟨o,hin _ hp,hlt,hq⟩
  ·rcases hKc e with e1 | ⟨p1,hp1,e1⟩<;>rcases hKc e' with e2 | ⟨p2,hp2,e2⟩
   ·obtain⟨x,_,rfl,rfl⟩:=aE e1
    obtain⟨y,_,rfl,rfl⟩:=aE e2
    have:x=y:=hB
    rw [this]
   ·obtain⟨x,hx,rfl,rfl⟩:=aE e1
    obtain⟨_,_,_,_,_,_,hN,_⟩:=hobj _ hp2 L' e2
    have hB:x=L'.B:=hB
    exact absurd (hB▸hW.glob x hx) hN
   ·obtain⟨x,hx,rfl,rfl⟩:=aE e2
    obtain⟨_,_,_,_,_,_,hN,_⟩:=hobj _ hp1 L e1
    have hB:L.B=x:=hB
    exact absurd (hB▸hW.glob x hx) hN
   ·obtain⟨b1,o1,q1,r1,g1,l1,_⟩:=hobj _ hp1 L e1
    obtain⟨b2,o2,q2,r2,g2,l2,_⟩:=hobj _ hp2 L' e2
    have hbb:=hs.inj b1 b2 L L' o1 o2 r1 r2 g1 g2 l1 l2 hB
    subst hbb
    exact hi2 _ hp1 _ hp2 (RT.get_nil _) (RT.get_nil _) (q1.trans q2.symm)
 have hglob:Glob P ρK:=fun g hg=>⟨_,hKs (fP h64 hg),rfl,rfl⟩
 have hargsK:RelL ρK r.args A:=RelL.withinF (Rel.within hS' 20) hargs hrσ
 unfold startM at hrun
 cases hb:bodyOf P f with
 | none=>rw [hb,eQ] at hrun;cases n<;>cases hrun
 | some cd=>
 rw [hb,eQ] at hrun
 refine (cU ⟨⟩ ⟨cq hR,hSum⟩ hF hs0 hglob hargsK hb hrun).mono ?_
 rintro e w' ⟨ρ1,v,V,h1,rfl,hv,hs1,_,hpost⟩
 exact⟨ρ,V,rfl,Sub.refl _,Kept.refl _ _,lz (f:=fun _=>none) (fun _ _ _ e=>nomatch e) 20 _ _ _ hpost hv,hs.grew (Grew.of_sim hs1.std)⟩
omit H in
theorem tN{args:List AV}{h:Heap}{x:AV × Heap}:∀ {rows:List ORow},orowP args h rows=some x→∃ r,r ∈ rows∧tM r args h=some x
 | [],e=>by cases e
 | r::rs,e=>by
  unfold orowP at e
  cases ha:tM r args h with
  | some y=>rw [ha] at e;exact⟨r,List.mem_cons_self ..,by rw [ha];exact e⟩
  | none=>
   rw [ha] at e
   obtain⟨q,h1,h2⟩:=tN e
   exact⟨q,List.mem_cons_of_mem _ h1,h2⟩
def orowRun(P:Program)(laid:List (Nat × AObj))(f:Nat)(k:Key)(n:Nat)(r:ORow):Bool:=cond (r.okO P laid) (runF P (xo r) n (startM P laid f r.args r.pre k)) false
theorem oprim_ok(hR:RowsOk P)(hF:P.follows .mixedOrders=true)(h64:P.globals.size≤64){laid:List (Nat × AObj)}{tot:Nat→Nat}{f n:Nat}{k:Key}{rows:List ORow}(hrows:∀ r ∈ rows,orowRun P laid f k n r=true)(b:Base)(hb:b.Keeps P laid tot)
  (hS:∀ b':Base,b'.Keeps P laid tot→(∀ g v,g < P.globals.size→b.w.cell? ⟨g,0,none⟩=some v→b'.w.cell? ⟨g,0,none⟩=some v)→SumOk P b'):PrimOk P b f (fun args h=>orowP args h rows):=by
 intro ρ h w args A v h' hs hr he
 obtain⟨r,hr1,hr2⟩:=tN he
 obtain⟨h1,h2⟩:=ad (show cond (r.okO P laid) (runF P (xo r) n (startM P laid f r.args r.pre k)) false=true from hrows r hr1)
 exact I1 hR hF h64 hb hS h1 h2 hs hr hr2
end
end Go.VM
namespace Go.VM
def upN:Nat→Nat→List Nat:=fun n=>Nat.rec (motive:=fun _=>Nat→List Nat) (fun _=>[]) (fun _ ih lo=>ak lo fun lo=>lo::ih (lo+1)) n
theorem G6(n lo:Nat):upN (n+1) lo=lo::upN n (lo+1):=af lo fun lo=>lo::upN n (lo+1)
theorem D2:∀ {n lo m:Nat},lo≤m→m < lo+n→m ∈ upN n lo
 | 0,_,_,h1,h2=>by omega
 | n+1,lo,m,h1,h2=>by
  rw [G6]
  by_cases h:m=lo
  ·subst h;exact List.mem_cons_self ..
  ·exact List.mem_cons_of_mem _ (D2 (by omega) (by omega))
theorem tO{k:IntKind}{m:Nat}:∀ {ds:List Nat},m ∈ ds→aQ m ds (fZ k ds)=.int k (Int.ofNat m)
 | [],h=>by cases h
 | d::r,h=>by
  show cond (Nat.beq m d) (.int k (Int.ofNat d)) (aQ m r (fZ k r))=_
  cases hb:Nat.beq m d with
  | true=>rw [Nat.eq_of_beq_eq_true hb];rfl
  | false=>
   cases h with
   | head=>rw [Nat.beq_refl] at hb;cases hb
   | tail _ h=>exact tO h
def Kg(wd:Nat)(v:AV)(_:Heap):Bool:=mV (fun _=>none) 20 (.ustr wd) v
section
variable [H:Hook] {P:Program}
def numRun(P:Program)(laid:List (Nat × AObj))(f:Nat)(s k:Key)(wd n lo:Nat):Bool:=
 (fun ds:List Nat=>cond (freeSyms [(s,ds)] ⟨startT laid P.globals.size,k⟩) (runF P (Kg wd) 500000 (startStS P laid f [.tab s ds (fZ .i64 ds),.int .i64 (Int.ofNat wd)] [(s,ds)] k)) false) (upN n lo)
theorem num_calls(hR:RowsOk P)(hF:P.follows .mixedOrders=true)(h64:P.globals.size≤64){laid:List (Nat × AObj)}{tot:Nat→Nat}{f:Nat}{w:World}(hS:SumOk P (Base.at w (startRho tot P.globals.size)))(hw:LaidOk P laid tot w)(hz:0 < w.heap.size)
  {s k:Key} {wd n lo m:Nat} (hrun:numRun P laid f s k wd n lo=true) (h1:lo≤m) (h2:m < lo+n):
  Calls P f ⟨[.int .i64 (Int.ofNat m),.int .i64 (Int.ofNat wd)]⟩ w fun e w'=>∃ x:ByteArray,e=.returned (.string x)∧x.size=wd∧Grew w w':=by
 have hm:=D2 h1 h2
 unfold numRun at hrun
 dsimp only at hrun
 generalize upN n lo=ds at hrun hm
 obtain⟨hfree,hrun⟩:=ad hrun
 rw [eQ] at hrun
 unfold startStS at hrun
 cases hb:bodyOf P f with
 | none=>rw [hb] at hrun;cases hrun
 | some c=>
  rw [hb] at hrun
  have h0:=kF (laid:=laid) (tot:=tot) h64 hw.1 (fun g o hg hl ρ=>hw.2 g o hg hl _ ρ)
  have hs:Sim (Base.at w (startRho tot P.globals.size)) (startRho tot P.globals.size) ⟨startT laid P.globals.size,k⟩ w:=⟨h0.os,h0.out,h0.size,h0.old,h0.sub,h0.obj,h0.inj⟩
  obtain⟨hs2,hsub⟩:=t8 (js:=[m]) hz hs hfree ⟨hm,trivial⟩
  have hK:oP (startRho tot P.globals.size) [(s,ds)] [m] s=some ⟨0,m,0⟩:=Rho.add_same _ _ _
  have hl:=tO (k:=.i64) hm
  have hr:RelL (oP (startRho tot P.globals.size) [(s,ds)] [m]) [.tab s ds (fZ .i64 ds),.int .i64 (Int.ofNat wd)] [.int .i64 (Int.ofNat m),.int .i64 (Int.ofNat wd)]:=
   .cons _ _ _ _ (.tab s ds _ ⟨0,m,0⟩ _ hK (by rw [hl];rfl) (by rw [hl];exact .int _ _)) (.cons _ _ _ _ (.int _ _) .nil)
  refine (cU ⟨⟩ ⟨cq hR,hS⟩ hF hs2 ((iB h64).mono hsub) hr hb hrun).mono ?_
  rintro e w' ⟨ρ',v,V,h,rfl,hv,hs',_,hpost⟩
  have:=lz (ρ':=ρ') (f:=fun _=>none) (fun _ _ _ e=>nomatch e) 20 _ _ _ hpost hv
  cases this with
  | ustr _ x hx=>exact⟨x,rfl,hx,Grew.of_sim hs'.std⟩
def lookNN(n:Nat):List (Nat × Nat)→Option Nat
 | []=>none
 | p::r=>cond (Nat.beq n p.1) (some p.2) (lookNN n r)
def Kh(hi wd:Nat)(h:Heap)(x:Option Nat):Option (AV × Heap):=match x with
 | some lim=>cond (Nat.ble hi lim) (some (.ustr wd,h)) none
 | none=>none
def numberP(lims:List (Nat × Nat))(args:List AV)(h:Heap):Option (AV × Heap):=match args with
 | [.rng _ hi,.int .i64 (.ofNat wd)]=>Kh hi wd h (lookNN wd lims)
 | _=>none
omit H in
theorem numberP_ok{b:Base}{f:Nat}{lims:List (Nat × Nat)}(hl:∀ wd lim,lookNN wd lims=some lim→∀ (w:World),b.w.heap.size≤w.heap.size→(∀ k,b.F k→w.heap[k]?=b.w.heap[k]?)→∀ m,m < lim→Calls P f ⟨[.int .i64 (Int.ofNat m),.int .i64 (Int.ofNat wd)]⟩ w fun e w'=>∃ x:ByteArray,e=.returned (.string x)∧x.size=wd∧Grew w w'):PrimOk P b f (numberP lims):=by
 intro ρ h w args A v h' hs hr he
 unfold numberP at he
 split at he
 ·rename_i lo hi wd
  unfold Kh at he
  split at he
  ·rename_i lim heq
   cases hb:Nat.ble hi lim with
   | false=>rw [hb] at he;cases he
   | true=>
    rw [hb] at he
    have he:some (AV.ustr wd,h)=some (v,h'):=he
    injection he with he
    obtain⟨rfl,rfl⟩:=Prod.mk.inj he
    cases hr with
    | cons _ X _ R hx hR=>cases hR with
     | cons _ Y _ R2 hy hR2=>cases hR2;cases hx with
      | rng _ _ m h1 h2=>cases hy with
       | int _ _=>
        refine (hl wd lim heq w hs.size hs.old m (Nat.lt_of_lt_of_le h2 (Nat.le_of_ble_eq_true hb))).mono ?_
        rintro e w' ⟨x,rfl,hx,hg⟩
        exact⟨ρ,_,rfl,Sub.refl _,Kept.refl _ _,.ustr _ x hx,hs.grew hg⟩
  ·cases he
 ·cases he
omit H in
theorem PrimOk.two{b:Base}{f:Nat}{p q:List AV→Heap→Option (AV × Heap)}(h1:PrimOk P b f p)(h2:PrimOk P b f q):PrimOk P b f (fun a h=>orTwo (p a h) (q a h)):=by
 intro ρ h w args A v h' hs hr he
 have he:orTwo (p args h) (q args h)=some (v,h'):=he
 cases hx:p args h with
 | some x=>
  rw [hx] at he
  have he:some x=some (v,h'):=he
  injection he with he;subst he
  exact h1 ρ h w args A v h' hs hr hx
 | none=>rw [hx] at he;exact h2 ρ h w args A v h' hs hr he
end
end Go.VM
end
