/- An evaluator of the model's operations (its definitions), and what its values, memory and first operations mean in the model. No conditions: a library text of the proof. -/
import GoSem.Step
import Derived.Calls
import Derived.WalkKit
noncomputable section
namespace Go.VM
inductive D8 where | d0 | d1 | d2 | d3 | d4 | d5 | d6 | d7
structure N8 (α:Type) where
 a0:α
 a1:α
 a2:α
 a3:α
 a4:α
 a5:α
 a6:α
 a7:α
structure Sel (α:Type) where
 f:N8 α→α
def sel{α:Type}(d:D8):Sel α:=D8.rec (motive:=fun _=>Sel α) ⟨N8.a0⟩ ⟨N8.a1⟩ ⟨N8.a2⟩ ⟨N8.a3⟩ ⟨N8.a4⟩ ⟨N8.a5⟩ ⟨N8.a6⟩ ⟨N8.a7⟩ d
def N8.m0{α:Type}(f:α→α)(a0 a1 a2 a3 a4 a5 a6 a7:α):N8 α:=⟨f a0,a1,a2,a3,a4,a5,a6,a7⟩
def N8.u0{α:Type}(f:α→α)(x:N8 α):N8 α:=N8.rec (motive:=fun _=>N8 α) (N8.m0 f) x
def N8.m1{α:Type}(f:α→α)(a0 a1 a2 a3 a4 a5 a6 a7:α):N8 α:=⟨a0,f a1,a2,a3,a4,a5,a6,a7⟩
def N8.u1{α:Type}(f:α→α)(x:N8 α):N8 α:=N8.rec (motive:=fun _=>N8 α) (N8.m1 f) x
def N8.m2{α:Type}(f:α→α)(a0 a1 a2 a3 a4 a5 a6 a7:α):N8 α:=⟨a0,a1,f a2,a3,a4,a5,a6,a7⟩
def N8.u2{α:Type}(f:α→α)(x:N8 α):N8 α:=N8.rec (motive:=fun _=>N8 α) (N8.m2 f) x
def N8.m3{α:Type}(f:α→α)(a0 a1 a2 a3 a4 a5 a6 a7:α):N8 α:=⟨a0,a1,a2,f a3,a4,a5,a6,a7⟩
def N8.u3{α:Type}(f:α→α)(x:N8 α):N8 α:=N8.rec (motive:=fun _=>N8 α) (N8.m3 f) x
def N8.m4{α:Type}(f:α→α)(a0 a1 a2 a3 a4 a5 a6 a7:α):N8 α:=⟨a0,a1,a2,a3,f a4,a5,a6,a7⟩
def N8.u4{α:Type}(f:α→α)(x:N8 α):N8 α:=N8.rec (motive:=fun _=>N8 α) (N8.m4 f) x
def N8.m5{α:Type}(f:α→α)(a0 a1 a2 a3 a4 a5 a6 a7:α):N8 α:=⟨a0,a1,a2,a3,a4,f a5,a6,a7⟩
def N8.u5{α:Type}(f:α→α)(x:N8 α):N8 α:=N8.rec (motive:=fun _=>N8 α) (N8.m5 f) x
def N8.m6{α:Type}(f:α→α)(a0 a1 a2 a3 a4 a5 a6 a7:α):N8 α:=⟨a0,a1,a2,a3,a4,a5,f a6,a7⟩
def N8.u6{α:Type}(f:α→α)(x:N8 α):N8 α:=N8.rec (motive:=fun _=>N8 α) (N8.m6 f) x
def N8.m7{α:Type}(f:α→α)(a0 a1 a2 a3 a4 a5 a6 a7:α):N8 α:=⟨a0,a1,a2,a3,a4,a5,a6,f a7⟩
def N8.u7{α:Type}(f:α→α)(x:N8 α):N8 α:=N8.rec (motive:=fun _=>N8 α) (N8.m7 f) x
structure Upd (α:Type) where
 f:(α→α)→N8 α→N8 α
def upd{α:Type}(d:D8):Upd α:=D8.rec (motive:=fun _=>Upd α) ⟨N8.u0⟩ ⟨N8.u1⟩ ⟨N8.u2⟩ ⟨N8.u3⟩ ⟨N8.u4⟩ ⟨N8.u5⟩ ⟨N8.u6⟩ ⟨N8.u7⟩ d
structure Key where
 a:D8
 b:D8
 c:D8
 d:D8
 e:D8
abbrev RT5(α:Type):Type:=N8 (N8 (N8 (N8 (N8 (Option α)))))
structure RT (α:Type) where
 t:RT5 α
def jx{α:Type}(x:α):N8 α:=⟨x,x,x,x,x,x,x,x⟩
def RT.e1{α:Type}:N8 (Option α):=jx none
def RT.e2{α:Type}:N8 (N8 (Option α)):=jx RT.e1
def RT.e3{α:Type}:N8 (N8 (N8 (Option α))):=jx RT.e2
def RT.e4{α:Type}:N8 (N8 (N8 (N8 (Option α)))):=jx RT.e3
def RT.e5{α:Type}:RT5 α:=jx RT.e4
def RT.nil{α:Type}:RT α:=⟨RT.e5⟩
def RT.getD{α:Type}(t:RT5 α)(a b c d e:D8):Option α:=(sel a).f ((sel b).f ((sel c).f ((sel d).f ((sel e).f t))))
def RT.get{α:Type}(t:RT α)(k:Key):Option α:=Key.rec (motive:=fun _=>Option α) (RT.getD t.t) k
def lA{α:Type}(x:α)(_:α):α:=x
def RT.setD{α:Type}(x:Option α)(a b c d e:D8)(t:RT5 α):RT5 α:=(upd e).f ((upd d).f ((upd c).f ((upd b).f ((upd a).f (lA x))))) t
def RT.setM{α:Type}(x:Option α)(t:RT5 α)(a b c d e:D8):RT α:=⟨RT.setD x a b c d e t⟩
def RT.setO{α:Type}(x:Option α)(k:Key)(t:RT α):RT α:=Key.rec (motive:=fun _=>RT α) (RT.setM x t.t) k
def RT.set{α:Type}(x:α)(k:Key)(t:RT α):RT α:=RT.setO (some x) k t
def D8.ofNat:Nat→D8
 | 0=>.d0 | 1=>.d1 | 2=>.d2 | 3=>.d3 | 4=>.d4 | 5=>.d5 | 6=>.d6 | _=>.d7
def wo{α:Type}(k:D8→α)(r:α)(d:D8):α:=D8.rec (motive:=fun _=>α) (k .d1) (k .d2) (k .d3) (k .d4) (k .d5) (k .d6) (k .d7) r d
def Ki(a b c d e:D8):Key:=
 wo (fun a=>⟨a,b,c,d,e⟩) (wo (fun b=>⟨.d0,b,c,d,e⟩) (wo (fun c=>⟨.d0,.d0,c,d,e⟩) (wo (fun d=>⟨.d0,.d0,.d0,d,e⟩) (wo (fun e=>⟨.d0,.d0,.d0,.d0,e⟩) ⟨.d0,.d0,.d0,.d0,.d0⟩ e) d) c) b) a
def bV(k:Key):Key:=Key.rec (motive:=fun _=>Key) Ki k
def D8.num:D8→Nat
 | .d0=>0 | .d1=>1 | .d2=>2 | .d3=>3 | .d4=>4 | .d5=>5 | .d6=>6 | .d7=>7
def tP(x y:D8)(r:Bool):Bool:=cond (Nat.beq x.num y.num) r false
def Key.same(x y:Key):Bool:=tP x.a y.a (tP x.b y.b (tP x.c y.c (tP x.d y.d (tP x.e y.e true))))
inductive ACap where
 | is (n:Nat)
 | more (size:Nat)
inductive AFn where
 | func (f:Nat) | yield (l:Key)
inductive AV where
 | bool (b:Bool) | int (k:IntKind) (n:Int) | float (k:FloatKind) (bits:Nat)
 | str (len code:Nat)
 | nilPtr | ptr (b:Key) (off:Nat)
 | nilSlice | emptyS | slice (b:Key) (off len:Nat) (cap:ACap)
 | nilMap | map (b:Key)
 | func (f:AFn) (first captured:List AV) | nilFunc
 | iface (t:Nat) (v:AV) | nilIface
 | agg (cs:List AV) | tup (vs:List AV)
 | undef | junk
 | red (k:IntKind) (m:Bool) (c j:Nat)
 | reds (k:IntKind) (m:Bool) (c:Nat) (b:Key)
 | tab (b:Key) (ds:List Nat) (vs:List AV)
 | ustr (len:Nat)
 | ofs (k:IntKind) (b:Key) (off:Int)
 | sliceG (a b:Key)
 | nan
 | rng (lo hi:Nat)
 | byte
structure ADef where
 fn:AFn
 captured:List AV
 args:List AV
inductive SKey where
 | s (a b:D8) | m (a b c:D8) | h (n:Nat)
structure ST where
 lo:N8 (N8 AV)
 mid:N8 (N8 (N8 AV))
 hi:List (Nat × AV)
structure Slots where
 n:Nat
 t:ST
inductive AObj where
 | cells (elem:Nat) (cs:List AV) (opn:Bool) (fz:Nat)
 | fixed (elem:Nat) (cs:List AV)
 | dead
 | map (es:List (AV × AV × Nat)) (clock:Nat)
 | siter (len code pos:Nat)
 | miter (m:Option Key) (since:Nat) (seen:List Nat) (stepped:Nat)
 | loop (st:LoopState) (pending:Option Code) (fn:Nat) (tmps:Slots) (params:List Nat) (assign body:Code) (defers:Key)
 | deferred (ds:List ADef)
 | pack (elem k:Nat) (t:RT Nat)
 | dom (ds:List Nat)
 | lmap (es:List (AV × AV))
 | mapAlt (vs:List (List (AV × AV × Nat) × Nat))
 | bytes (elem n:Nat)
 | ivl (lo hi:Nat)
 | packo (elem k:Nat) (t:RT Nat) (ov:List (Nat × AV))
 | umap (m:Option (Int × AV)) (l n:Nat)
 | rowG (v:AV) (b:Key)
 | smap (es:List (AV × AV × Key)) (c:Key)
 | smiter (m:Key) (all seen:List Key) (c:Key)
 | bits (elem n code:Nat)
structure Heap where
 t:RT AObj
 next:Key
inductive Res where
 | val (v:AV) (h:Heap)
 | enter (f:Nat) (args:List AV) (h:Heap)
 | round (l:Key) (args:List AV) (h:Heap)
 | defer (d:ADef) (h:Heap)
 | recover (h:Heap)
 | pan (v:AV) (h:Heap)
 | alts (l:List (AV × Heap))
 | bad (why:String)
def Heap.get(h:Heap)(b:Key):Option AObj:=Heap.rec (motive:=fun _=>Option AObj) (fun t _=>t.get b) h
def Heap.put(h:Heap)(b:Key)(o:AObj):Heap:=Heap.rec (motive:=fun _=>Heap) (fun t n=>.mk (t.set o b) n) h
def Heap.allocT(t:RT AObj)(n:Key)(o:AObj)(k:Key→Heap→Res):Res:=Option.rec (motive:=fun _=>Res) (k n (.mk (t.set o n) (bV n))) (fun _=>.bad "key") (t.get n)
def Heap.alloc(h:Heap)(o:AObj)(k:Key→Heap→Res):Res:=Heap.rec (motive:=fun _=>Res) (fun t n=>Heap.allocT t n o k) h
def aZ:List UInt8→Nat
 | []=>0
 | b::r=>b.toNat+256 * aZ r
mutual
def bg:Value→Option AV
 | .bool b=>some (.bool b)
 | .int k n=>some (.int k n)
 | .float k b=>some (.float k b)
 | .string s=>some (.str s.data.toList.length (aZ s.data.toList))
 | .pointer none=>some .nilPtr
 | .slice none 0 0=>some .nilSlice
 | .map none=>some .nilMap
 | .nilFunc=>some .nilFunc
 | .nilIface=>some .nilIface
 | .agg ⟨cs⟩=>(ofVals cs).map .agg
 | .tuple ⟨[]⟩=>some .undef
 | _=>none
def ofVals:List Value→Option (List AV)
 | []=>some []
 | v::r=>match bg v,ofVals r with
  | some a,some b=>some (a::b)
  | _,_=>none
end
def AV.cells(v:AV):List AV:=match v with
 | .agg cs=>cs
 | v=>[v]
def AV.sure(v:AV):Bool:=match v with
 | .junk=>false
 | _=>true
def getD(o:Option AV):AV:=Option.rec (motive:=fun _=>AV) .undef (fun v=>v) o
def G7(o:Option AV):AV:=Option.rec (motive:=fun _=>AV) .junk (fun v=>v) o
def keyOf(n:Nat):SKey:=cond (Nat.blt n 64) (.s (D8.ofNat (n % 8)) (D8.ofNat (n / 8))) (cond (Nat.blt n 512) (.m (D8.ofNat (n % 8)) (D8.ofNat (n / 8 % 8)) (D8.ofNat (n / 64))) (.h n))
def ST.e1:N8 AV:=jx .junk
def ST.e2:N8 (N8 AV):=jx ST.e1
def ST.e3:N8 (N8 (N8 AV)):=jx ST.e2
def ST.nil:ST:=⟨ST.e2,ST.e3,[]⟩
def D3(n:Nat):List (Nat × AV)→AV
 | []=>.junk
 | (m,v)::r=>cond (Nat.beq m n) v (D3 n r)
def ST.getS(t:ST)(a b:D8):AV:=(sel a).f ((sel b).f t.lo)
def ST.getM(t:ST)(a b c:D8):AV:=(sel a).f ((sel b).f ((sel c).f t.mid))
def ST.getH(t:ST)(n:Nat):AV:=D3 n t.hi
def ST.get(t:ST)(k:SKey):AV:=SKey.rec (motive:=fun _=>AV) t.getS t.getM t.getH k
def ST.setS(v:AV)(a b:D8)(lo:N8 (N8 AV))(mid:N8 (N8 (N8 AV)))(hi:List (Nat × AV)):ST:=⟨(upd b).f ((upd a).f (lA v)) lo,mid,hi⟩
def ST.setM(v:AV)(a b c:D8)(lo:N8 (N8 AV))(mid:N8 (N8 (N8 AV)))(hi:List (Nat × AV)):ST:=⟨lo,(upd c).f ((upd b).f ((upd a).f (lA v))) mid,hi⟩
def ST.setH(v:AV)(n:Nat)(lo:N8 (N8 AV))(mid:N8 (N8 (N8 AV)))(hi:List (Nat × AV)):ST:=⟨lo,mid,(n,v)::hi⟩
def ST.setK(v:AV)(k:SKey):N8 (N8 AV)→N8 (N8 (N8 AV))→List (Nat × AV)→ST:=SKey.rec (motive:=fun _=>N8 (N8 AV)→N8 (N8 (N8 AV))→List (Nat × AV)→ST) (ST.setS v) (ST.setM v) (ST.setH v) k
def ST.set(v:AV)(k:SKey)(t:ST):ST:=ST.rec (motive:=fun _=>ST) (ST.setK v k) t
def Slots.get(T:Slots)(t:Nat):AV:=T.t.get (keyOf t)
def jy(g:Nat):Key:=⟨D8.ofNat (g % 8),D8.ofNat (g / 8),.d0,.d0,.d0⟩
def D4(P:Program)(g:Nat):AV:=cond (Nat.blt g P.globals.size) (.ptr (jy g) 0) .junk
def ev(P:Program)(T:Slots)(x:Operand):AV:=Operand.rec (motive:=fun _=>AV) (fun t=>T.get t) (fun v=>G7 (bg v)) (fun g=>D4 P g) (fun f=>.func (.func f) [] []) x
def evs(P:Program)(T:Slots)(xs:List Operand):List AV:=List.rec (motive:=fun _=>List AV) [] (fun x _ ih=>ev P T x::ih) xs
def j5(P:Program)(T:Slots)(xs:List (Nat × Operand)):List (Nat × AV):=List.rec (motive:=fun _=>List (Nat × AV)) [] (fun x _ ih=>(x.1,ev P T x.2)::ih) xs
def okv(x:Option AV)(h:Heap)(why:String):Res:=Option.rec (motive:=fun _=>Res) (.bad why) (fun v=>.val v h) x
def take{α:Type}:Nat→List α→List α
 | 0,_=>[]
 | _+1,[]=>[]
 | n+1,x::r=>x::take n r
def drop{α:Type}(n:Nat)(l:List α):List α:=Nat.rec (motive:=fun _=>List α→List α) (fun l=>l) (fun _ ih l=>List.rec (motive:=fun _=>List α) [] (fun _ r _=>ih r) l) n l
def hd{α:Type}(l:List α):Option α:=List.rec (motive:=fun _=>Option α) none (fun x _ _=>some x) l
def len{α:Type}:List α→Nat
 | []=>0
 | _::r=>Nat.succ (len r)
section
variable (P:Program)
def aU(t:Nat):Nat:=((P.info? t).map (·.size)).getD 0
def bQ(t:Nat):Bool:=match P.underlying t with | some (.struct _) | some (.array _ _)=>true | _=>false
def known(t:Nat):Bool:=(P.underlying t).isSome
def gU(t:Nat):Bool:=not (Nat.beq (aU P t) 0)
def dK(t:Nat):Bool:=match P.underlying t with | some (.int .u8)=>true | _=>false
def iJ(t:Nat):Nat:=((P.info? t).map (·.bytes)).getD 0
def bK(t:Nat):Option AV:=((P.info? t).bind (·.zero)).bind bg
def cat{α:Type}:List α→List α→List α
 | [],l=>l
 | x::r,l=>x::cat r l
def splice(cs:List AV)(off:Nat)(vs:List AV):List AV:=cat (take off cs) (cat vs (drop (off+len vs) cs))
def G8(agg:Bool)(size off:Nat)(cs:List AV):Option AV:=
 cond agg (cond (Nat.ble (off+size) (len cs)) (some (.agg (take size (drop off cs)))) none) (hd (drop off cs))
def jz(t off:Nat)(cs:List AV):Option AV:=cond (known P t) (G8 (bQ P t) (aU P t) off cs) none
def qj(place:Nat→Option (Nat × Nat))(cs:List AV):List (Nat × AV)→Option (List AV)
 | []=>some cs
 | (i,v)::rest=>
  match place i with
  | none=>none
  | some (off,size)=>cond (and v.sure (and (Nat.beq (len v.cells) size) (Nat.ble (off+size) (len cs)))) (qj place (splice cs off v.cells) rest) none
def rep(n:Nat)(zs:List AV):List AV:=match n with | 0=>[] | n+1=>cat zs (rep n zs)
def pe(code lo n:Nat):Nat:=Nat.mod (Nat.shiftRight code (8 * lo)) (2 ^ (8 * n))
def ci:Nat→Nat→Nat→Nat→Nat→Bool
 | 0,la,_,lb,_=>Nat.blt la lb
 | n+1,la,a,lb,b=>
  cond (Nat.beq lb 0) false (cond (Nat.beq la 0) true
  (cond (Nat.blt (a % 256) (b % 256)) true (cond (Nat.blt (b % 256) (a % 256)) false
  (ci n (la - 1) (a / 256) (lb - 1) (b / 256)))))
def eh:AV→Option Value
 | .bool b=>some (.bool b)
 | .int k n=>some (.int k n)
 | .float k b=>some (.float k b)
 | _=>none
def aS{α:Type}:Sem α→Option α
 | .pure a=>some a
 | .program k=>aS (k P)
 | .mark _ k=>aS k
 | _=>none
def ak{α:Type}(n:Nat)(k:Nat→α):α:=Nat.rec (motive:=fun _=>α) (k 0) (fun m _=>k (Nat.succ m)) n
def BI{α:Type}(n:Int)(k:Int→α):α:=Int.rec (motive:=fun _=>α) (fun a=>ak a (fun a=>k (Int.ofNat a))) (fun a=>ak a (fun a=>k (Int.negSucc a))) n
def intV(k:IntKind)(n:Int)(h:Heap):Res:=BI n (fun n=>.val (.int k n) h)
def boolV(b:Bool)(h:Heap):Res:=Bool.rec (motive:=fun _=>Res) (.val (.bool false) h) (.val (.bool true) h) b
def strV(l c:Nat)(h:Heap):Res:=ak l (fun l=>ak c (fun c=>cond (Nat.ble l 1000000) (.val (.str l c) h) (.bad "long")))
def bO(a b:Int):Bool:=match a,b with
 | .ofNat a,.ofNat b=>Nat.beq a b
 | .negSucc a,.negSucc b=>Nat.beq a b
 | _,_=>false
def eH(a b:Int):Bool:=match a,b with
 | .ofNat a,.ofNat b=>Nat.blt a b
 | .negSucc _,.ofNat _=>true
 | .ofNat _,.negSucc _=>false
 | .negSucc a,.negSucc b=>Nat.blt b a
def aj:IntKind→Nat
 | .i8=>0 | .i16=>1 | .i32=>2 | .i64=>3 | .u8=>4 | .u16=>5 | .u32=>6 | .u64=>7
def eV(rc:Nat→AV→AV→Option Bool)(xs ys:List AV):List Field→Option Bool
 | []=>some true
 | f::fs=>cond (f.name == "_") (eV rc xs ys fs) (match jz P f.type f.offset xs,jz P f.type f.offset ys with
  | some a,some b=>(match rc f.type a b with | some true=>eV rc xs ys fs | r=>r)
  | _,_=>none)
def qk(h:Heap)(b:Key):Bool:=match h.get b with
 | some (.cells _ _ o fz)=>cond o false (Nat.beq fz 0)
 | _=>false
def D5(h:Heap)(a:Key)(o:Nat)(b:Key)(q:Nat):Option Bool:=
 cond (Key.same a b) (some (Nat.beq o q)) (cond (qk h a) (cond (qk h b) (some false) none) none)
def eqA(h:Heap):Nat→Nat→AV→AV→Option Bool
 | 0,_,_,_=>none
 | d+1,t,x,y=>
  match P.underlying t with
  | some .bool=>(match x,y with | .bool a,.bool b=>some (a == b) | _,_=>none)
  | some (.int _)=>(match x,y with | .int k a,.int k' b=>cond (Nat.beq (aj k) (aj k')) (some (bO a b)) none | _,_=>none)
  | some (.float _)=>(match x,y with | .float .f64 a,.float .f64 b=>some (Op.floatEq .f64 a b) | _,_=>none)
  | some .string=>(match x,y with | .str la a,.str lb b=>some (cond (Nat.beq la lb) (Nat.beq a b) false) | _,_=>none)
  | some (.pointer e)=>(match x,y with
   | .nilPtr,.nilPtr=>some true
   | .nilPtr,.ptr _ _=>some false
   | .ptr _ _,.nilPtr=>some false
   | .ptr a o,.ptr b q=>cond (Nat.beq (aU P e) 0) none (D5 h a o b q)
   | _,_=>none)
  | some (.interface _)=>(match x,y with
   | .nilIface,.nilIface=>some true
   | .nilIface,.iface _ _=>some false
   | .iface _ _,.nilIface=>some false
   | .iface ta a,.iface tb b=>cond (Nat.beq ta tb) (cond (((P.info? ta).map (·.comparable)).getD false) (eqA h d ta a b) none) (some false)
   | _,_=>none)
  | some (.slice _)=>(match x,y with
   | .nilSlice,.nilSlice=>some true
   | .nilSlice,.slice ..=>some false
   | .nilSlice,.emptyS=>some false
   | .slice ..,.nilSlice=>some false
   | .emptyS,.nilSlice=>some false
   | _,_=>none)
  | some (.map _ _)=>(match x,y with | .nilMap,.nilMap=>some true | .nilMap,.map _=>some false | .map _,.nilMap=>some false | _,_=>none)
  | some (.func _ _ _)=>(match x,y with | .nilFunc,.nilFunc=>some true | .nilFunc,.func ..=>some false | .func ..,.nilFunc=>some false | _,_=>none)
  | some (.struct fs)=>(match x,y with | .agg xs,.agg ys=>cond (P.stoodInHeld t) none (eV P (eqA h d) xs ys fs.toList) | _,_=>none)
  | _=>none
def AV.plain(v:AV):Bool:=match v with
 | .str _ _=>true
 | .int _ _=>true
 | .bool _=>true
 | _=>false
def aQ(d:Nat):List Nat→List AV→AV
 | e::ds,v::vs=>cond (Nat.beq d e) v (aQ d ds vs)
 | _,_=>.junk
def c7(b:Key)(d:Nat)(v:AV):AV:=match v with
 | .tab b' ds vs=>cond (Key.same b b') (aQ d ds vs) v
 | v=>v
def aT(b:Key)(d:Nat):List AV→List AV
 | []=>[]
 | v::r=>c7 b d v::aT b d r
def jA:List AV→Option Key
 | []=>none
 | .tab b _ _::_=>some b
 | _::r=>jA r
def nC(b:Key)(d:Nat)(v:AV):Option AV:=match v with
 | .tab b' (e::_) (x::_)=>cond (Key.same b b') (cond (Nat.beq d e) (some x) none) (some v)
 | .tab b' _ _=>cond (Key.same b b') none (some v)
 | v=>some v
def bu(b:Key)(d:Nat):List AV→Option (List AV)
 | []=>some []
 | v::r=>(nC b d v).bind fun x=>(bu b d r).bind fun xs=>some (x::xs)
def G9(b:Key)(v:AV):AV:=match v with
 | .tab b' (_::ds) (_::vs)=>cond (Key.same b b') (.tab b' ds vs) v
 | v=>v
def bF(b:Key):List AV→List AV
 | []=>[]
 | v::r=>G9 b v::bF b r
def cI(g:List AV→Option AV)(b:Key):List Nat→List AV→Option (List AV)
 | [],_=>some []
 | d::r,vs=>(bu b d vs).bind fun xs=>(g xs).bind fun v=>(cI g b r (bF b vs)).bind fun l=>some (v::l)
def fW(a:Bool)(x:Option Bool):Option Bool:=match x with
 | some b=>cond (Bool.xor a b) none (some a)
 | none=>none
def kQ(f:Nat→Option Bool):List Nat→Option Bool
 | []=>none
 | [d]=>f d
 | d::r=>(f d).bind fun a=>fW a (kQ f r)
def ql(g:List AV→Option Bool)(b:Key):List Nat→List AV→Option Bool
 | [],_=>none
 | [d],vs=>(bu b d vs).bind g
 | d::e::r,vs=>((bu b d vs).bind g).bind fun a=>fW a (ql g b (e::r) (bF b vs))
def b9(o:Option AObj):List Nat:=match o with
 | some (.dom ds)=>ds
 | _=>[]
def Jm(x y:Option Bool):Option Bool:=match x with
 | some b=>some b
 | none=>y
def Ga(h:Heap)(t:Nat)(vs:List AV):Option Bool:=match vs with
 | [x,y]=>eqA P h 50 t x y
 | _=>none
def IG(h:Heap)(t:Nat)(x y:AV)(k:Option Key):Option Bool:=match k with
 | some b=>Jm (ql (Ga P h t) b (b9 (h.get b)) [x,y]) (kQ (fun d=>eqA P h 50 t (c7 b d x) (c7 b d y)) (b9 (h.get b)))
 | none=>none
def eqT(h:Heap)(t:Nat)(x y:AV):Option Bool:=Jm (eqA P h 50 t x y) (IG P h t x y (jA [x,y]))
def dL(cst:Bool)(t:Nat)(x:AV):Bool:=match x with
 | .nilIface=>cond cst true (match P.underlying t with | some (.interface ms)=>ms.isEmpty | _=>false)
 | .agg _=>not (P.eqGuardType P.depth t)
 | _=>true
def okb(x:Option Bool)(h:Heap):Res:=Option.rec (motive:=fun _=>Res) (.bad "==") (fun v=>boolV v h) x
def Jn(x:Option Bool)(h:Heap):Res:=Option.rec (motive:=fun _=>Res) (.bad "!=") (fun v=>boolV (not v) h) x
def binStr(op:BinOp)(la a lb b:Nat)(h:Heap):Res:=match op with
 | .add=>strV (la+lb) (a+Nat.shiftLeft b (8 * la)) h
 | .eql=>boolV (cond (Nat.beq la lb) (Nat.beq a b) false) h
 | .neq=>boolV (not (cond (Nat.beq la lb) (Nat.beq a b) false)) h
 | .lss=>boolV (ci (la+lb+1) la a lb b) h
 | .gtr=>boolV (ci (la+lb+1) lb b la a) h
 | .leq=>boolV (not (ci (la+lb+1) lb b la a)) h
 | .geq=>boolV (not (ci (la+lb+1) la a lb b)) h
 | _=>.bad "binStr"
def fY(n:Int):Bool:=match n with | .ofNat a=>Nat.blt a 9223372036854775808 | .negSucc a=>Nat.blt a 9223372036854775808
def scalV(v:Option Value)(h:Heap)(why:String):Res:=match v with
 | some (.int k n)=>intV k n h
 | some (.bool b)=>boolV b h
 | some (.float k b)=>ak b (fun b=>.val (.float k b) h)
 | _=>.bad why
def bN(op:BinOp)(t:Nat)(k:IntKind)(a:Int)(k':IntKind)(b:Int)(h:Heap):Res:=scalV (aS P (binOp op t (.int k a) (.int k' b))) h "binInt"
def wp(op:BinOp)(t:Nat)(k:IntKind)(a:Int)(k':IntKind)(b:Int)(h:Heap)(r:Int):Res:=
 IntKind.casesOn (motive:=fun _=>Res) k (bN P op t k a k' b h) (bN P op t k a k' b h) (bN P op t k a k' b h) (cond (fY r) (intV .i64 r h) (bN P op t k a k' b h)) (bN P op t k a k' b h) (bN P op t k a k' b h) (bN P op t k a k' b h) (bN P op t k a k' b h)
def xp(op:BinOp)(t:Nat)(k:IntKind)(a:Int)(k':IntKind)(b:Int)(h:Heap):Res:=BinOp.casesOn (motive:=fun _=>Res) op
 (wp P op t k a k' b h (a+b)) (wp P op t k a k' b h (a - b)) (bN P op t k a k' b h) (bN P op t k a k' b h) (bN P op t k a k' b h) (bN P op t k a k' b h) (bN P op t k a k' b h) (bN P op t k a k' b h)
 (bN P op t k a k' b h) (bN P op t k a k' b h) (bN P op t k a k' b h)
 (boolV (bO a b) h) (boolV (not (bO a b)) h) (boolV (eH a b) h) (boolV (not (eH b a)) h) (boolV (eH b a) h) (boolV (not (eH a b)) h)
def binInt(op:BinOp)(t:Nat)(k:IntKind)(a:Int)(k':IntKind)(b:Int)(h:Heap):Res:=
 cond (Nat.beq (aj k) (aj k')) (xp P op t k a k' b h) (bN P op t k a k' b h)
def tQ(op:BinOp)(t:Nat)(cst:Bool)(x y:AV)(h:Heap):Res:=match op with
 | .eql=>cond (dL P cst t x) (okb (eqA P h 50 t x y) h) (.bad "==")
 | .neq=>cond (dL P cst t x) (Jn (eqA P h 50 t x y) h) (.bad "!=")
 | op=>match eh x,eh y with
  | some a,some b=>scalV (aS P (binOp op t a b)) h "binOp"
  | _,_=>.bad "binOp"
def zH(p:Nat→Bool)(k:IntKind)(h:Heap):Nat→List (AV × Heap)
 | 0=>[]
 | n+1=>cond (p n) ((.int k (Int.ofNat n),h)::zH p k h n) (zH p k h n)
def tT(p:Nat→Bool)(k:IntKind)(n:Nat)(h:Heap):Res:=cond (Nat.ble n 4096) (.alts (zH p k h n)) (.bad "fork")
def qM(k k':IntKind)(c j:Nat)(b:Int)(h:Heap):Res:=match b with
 | .ofNat b=>cond (and (and (Nat.beq (aj k) (aj .i64)) (Nat.beq (aj k') (aj .i64))) (Nat.beq (Nat.land b c) c)) (tT (fun n=>Nat.beq (Nat.land n c) j) k (b+1) h) (.bad "fork")
 | _=>.bad "fork"
def qN(k k':IntKind)(c j:Nat)(b:Int)(h:Heap):Res:=match b with
 | .ofNat b=>cond (and (and (Nat.beq (aj k) (aj .u64)) (Nat.beq (aj k') (aj .u64))) (and (Nat.ble 1 b) (Nat.beq (Nat.mod b c) 0))) (tT (fun n=>Nat.beq (Nat.mod n c) j) k b h) (.bad "fork")
 | _=>.bad "fork"
def tU(op:BinOp)(k:IntKind)(m:Bool)(c j:Nat)(k':IntKind)(b:Int)(h:Heap):Res:=match op with
 | .and=>cond (and (and m (Nat.beq (aj k) (aj k'))) (bO b (Int.ofNat c))) (.val (.int k (Int.ofNat j)) h) (cond m (qM k k' c j b h) (.bad "binOp red"))
 | .rem=>cond (and (and (not m) (not (Nat.beq c 0))) (and (Nat.beq (aj k) (aj .u64)) (and (Nat.beq (aj k') (aj .u64)) (bO b (Int.ofNat c))))) (.val (.int k (Int.ofNat j)) h) (cond (and (not m) (not (Nat.beq c 0))) (qN k k' c j b h) (.bad "binOp red"))
 | _=>.bad "binOp red"
def fZ(k:IntKind):List Nat→List AV
 | []=>[]
 | d::r=>.int k (Int.ofNat d)::fZ k r
def pg(k:IntKind)(b:Key)(h:Heap):Res:=match h.get b with
 | some (.dom ds)=>.val (.tab b ds (fZ k ds)) h
 | _=>.bad "symbol"
def qO(op:BinOp)(k:IntKind)(m:Bool)(c:Nat)(s:Key)(k':IntKind)(b:Int)(h:Heap):Res:=match op with
 | .and=>cond (and (and m (Nat.beq (aj k) (aj k'))) (bO b (Int.ofNat c))) (pg k s h) (.bad "binOp reds")
 | .rem=>cond (and (and (not m) (not (Nat.beq c 0))) (and (Nat.beq (aj k) (aj .u64)) (and (Nat.beq (aj k') (aj .u64)) (bO b (Int.ofNat c))))) (pg k s h) (.bad "binOp reds")
 | _=>.bad "binOp reds"
def D6(t:Nat)(s:String):Bool:=match P.info? t with
 | some i=>i.str == s
 | none=>false
def nD(op:BinOp)(t:Nat):Bool:=match op with
 | .rem=>(match P.underlying t with | some (.int .u64)=>D6 P t "uint" | _=>false)
 | .and=>(match P.underlying t with | some (.int .i64)=>D6 P t "int" | _=>false)
 | _=>false
def tV(op:BinOp)(l:Nat)(h:Heap):Res:=match op with
 | .add=>ak l (fun l=>cond (Nat.ble l 1000000) (.val (.ustr l) h) (.bad "long"))
 | _=>.bad "binStr"
def xq(op:BinOp)(t:Nat)(cst:Bool)(x y:AV)(h:Heap):Res:=
 match x with
 | .ustr la=>(match y with | .str lb _=>tV op (la+lb) h | .ustr lb=>tV op (la+lb) h | _=>.bad "binOp str")
 | .int k a=>(match y with | .int k' b=>binInt P op t k a k' b h | _=>.bad "binOp int")
 | .str la a=>(match y with | .str lb b=>binStr op la a lb b h | .ustr lb=>tV op (la+lb) h | _=>.bad "binOp str")
 | .float k a=>(match y with | .float k' b=>scalV (aS P (binOp op t (.float k a) (.float k' b))) h "binOp float" | _=>.bad "binOp float")
 | .red k m c j=>(match y with | .int k' b=>cond (nD P op t) (tU op k m c j k' b h) (.bad "binOp red type") | _=>.bad "binOp red")
 | .reds k m c s=>(match y with | .int k' b=>qO op k m c s k' b h | _=>.bad "binOp reds")
 | .tab _ _ _=>.bad "binOp tab"
 | .ofs _ _ _=>.bad "binOp ofs"
 | .nan=>.bad "binOp nan"
 | .rng _ _=>.bad "binOp rng"
 | .byte=>.bad "binOp byte"
 | x=>tQ P op t cst x y h
def AV.one:AV→Bool
 | .agg _=>false | .tup _=>false | .undef=>false | .junk=>false
 | _=>true
def dq:List AV→Bool
 | []=>true
 | v::r=>cond v.one (dq r) false
def cellsOf(o:Option AObj):Option (List AV):=Option.rec (motive:=fun _=>Option (List AV)) none (fun o=>AObj.casesOn (motive:=fun _=>Option (List AV)) o (fun _ cs _ _=>some cs) (fun _ cs=>some cs) none (fun _ _=>none) (fun _ _ _=>none) (fun _ _ _ _=>none) (fun _ _ _ _ _ _ _ _=>none) (fun _=>none) (fun _ _ _=>none) (fun _=>none) (fun _=>none) (fun _=>none) (fun _ _=>none) (fun _ _=>none) (fun _ _ _ _=>none) (fun _ _ _=>none) (fun _ _=>none) (fun _ _=>none) (fun _ _ _ _=>none) (fun _ _ _=>none)) o
def keyN(i:Nat):Key:=⟨D8.ofNat (i % 8),D8.ofNat (i / 8 % 8),D8.ofNat (i / 64 % 8),D8.ofNat (i / 512 % 8),D8.ofNat (i / 4096)⟩
def pw(n:Nat):Nat:=256 ^ n
def Gb(x:Option Nat):Nat:=match x with
 | some c=>Nat.mod c (pw 256)
 | none=>0
def bW(t:RT Nat)(i:Nat):Nat:=Gb (t.get (keyN i))
def aW(h:Heap)(b:Key)(off n:Nat):Option (List AV):=
 Option.rec (motive:=fun _=>Option (List AV)) none (fun cs=>cond (Nat.beq (len (take n (drop off cs))) n) (some (take n (drop off cs))) none) (cellsOf (h.get b))
def fv(h:Heap)(b:Key)(off:Nat):Option AV:=Option.rec (motive:=fun _=>Option AV) none (fun cs=>hd (drop off cs)) (cellsOf (h.get b))
def bo(h:Heap)(b:Key)(off:Nat)(vs:List AV):Option Heap:=
 match h.get b with
 | some (.cells e cs o fz)=>cond (Nat.ble (off+len vs) (len cs)) (cond (dq vs) (cond (Nat.ble fz off) (some (h.put b (.cells e (splice cs off vs) o fz))) none) none) none
 | _=>none
def az:Nat→Nat→List AV
 | 0,_=>[]
 | n+1,c=>.int .u8 (Int.ofNat (c % 256))::az n (c / 256)
def ag(t:RT Nat):Nat→List AV
 | 0=>[]
 | k+1=>cat (ag t k) (az 256 (bW t k))
def bR(t:RT Nat):Nat→Nat→Nat
 | 0,_=>0
 | m+1,i=>bW t i+Nat.shiftLeft (bR t m (i+1)) 2048
def kR(l:Nat):List AV→Option (List Nat)
 | []=>some []
 | v::r=>(match v with
  | .str m c=>cond (Nat.beq l m) (match kR l r with | some cs=>some (c::cs) | none=>none) none
  | _=>none)
def nE:List Nat→List AV
 | []=>[]
 | c::r=>.int .u8 (Int.ofNat (c % 256))::nE r
def zI:List Nat→List Nat
 | []=>[]
 | c::r=>c / 256::zI r
def jB(b:Key)(ds:List Nat):Nat→List Nat→List AV
 | 0,_=>[]
 | n+1,cs=>.tab b ds (nE cs)::jB b ds n (zI cs)
def nF(b:Key)(ds:List Nat)(vs:List AV)(size:Nat)(k:Nat→List AV→Res):Res:=match vs with
 | .str l _::_=>(match kR l vs with
  | some cs=>cond (Nat.beq size 1) (k l (jB b ds l cs)) (.bad "sliceCells")
  | none=>.bad "sliceCells")
 | _=>.bad "sliceCells"
def sliceCells(h:Heap)(size:Nat)(k:Nat→List AV→Res)(v:AV):Res:=match v with
 | .nilSlice=>k 0 []
 | .emptyS=>k 0 []
 | .slice b off len _=>(match aW h b off (len * size) with | some cs=>k len cs | none=>.bad "sliceCells")
 | .str len code=>cond (Nat.beq size 1) (k len (az len code)) (.bad "sliceCells")
 | .ustr len=>cond (Nat.beq size 1) (cond (Nat.ble len 100000) (k len (rep len [.byte])) (.bad "sliceCells")) (.bad "sliceCells")
 | .tab b ds vs=>nF b ds vs size k
 | _=>.bad "sliceCells"
def dm(h:Heap)(kt:Nat)(k:AV):List (AV × AV × Nat)→Option (Option AV)
 | []=>some none
 | (k',v,_)::r=>match eqT P h kt k k' with
  | some true=>some (some v)
  | some false=>dm h kt k r
  | none=>none
def iK(h:Heap)(kt:Nat)(k v:AV)(clock:Nat):List (AV × AV × Nat)→Option (List (AV × AV × Nat) × Bool)
 | []=>some ([(k,v,clock)],true)
 | (k',v',c)::r=>match eqT P h kt k k' with
  | some true=>some ((k,v,c)::r,false)
  | some false=>(match iK h kt k v clock r with | some (l,n)=>some ((k',v',c)::l,n) | none=>none)
  | none=>none
def nG(h:Heap)(kt:Nat)(k:AV):List (AV × AV)→Bool
 | []=>true
 | (k',_)::r=>match eqT P h kt k k' with
  | some false=>nG h kt k r
  | _=>false
def wq(h:Heap)(kt:Nat)(k:AV):List (AV × AV)→Option (Option AV)
 | []=>some none
 | (k',v)::r=>match eqT P h kt k k' with
  | some true=>cond (nG P h kt k r) (some (some v)) none
  | some false=>wq h kt k r
  | none=>none
def EA(h:Heap)(kt:Nat)(k v:AV):List (AV × AV)→Option (List (AV × AV) × Bool)
 | []=>some ([(k,v)],true)
 | (k',v')::r=>match eqT P h kt k k' with
  | some true=>cond (nG P h kt k r) (some ((k,v)::r,false)) none
  | some false=>(match EA h kt k v r with | some (l,n)=>some ((k',v')::l,n) | none=>none)
  | none=>none
def EB(h:Heap)(kt:Nat)(k:AV):List (AV × AV)→Option (List (AV × AV))
 | []=>some []
 | (k',v')::r=>match eqT P h kt k k' with
  | some true=>cond (nG P h kt k r) (some r) none
  | some false=>(match EB h kt k r with | some l=>some ((k',v')::l) | none=>none)
  | none=>none
def iL(h:Heap)(kt:Nat)(k:AV):List (AV × AV × Nat)→Option (List (AV × AV × Nat))
 | []=>some []
 | (k',v',c)::r=>match eqT P h kt k k' with
  | some true=>some r
  | some false=>(match iL h kt k r with | some l=>some ((k',v',c)::l) | none=>none)
  | none=>none
def tW(h:Heap)(elem size:Nat)(cs:List AV)(n fz:Nat):Res:=cond (and (Nat.ble (n * iJ P elem) 1000000000) (Nat.ble n 1000000000)) (h.alloc (.cells elem cs true fz) (fun b h=>ak n (fun n=>.val (.slice b 0 n (.more size)) h))) (.bad "append: long")
def nH:List AV→Bool
 | []=>true
 | v::r=>cond v.one (nH r) false
def nI(o:Option AObj):Option (List AV):=match o with
 | some (.cells _ cs _ _)=>some cs
 | _=>none
def inPlace(h:Heap)(b:Key)(at_:Nat)(news:List AV)(v:AV):Res:=match bo h b at_ news with | some h=>.val v h | none=>.bad "append in place"
def Gc(o:Option AObj):Option (Nat × Nat):=match o with
 | some (.cells e _ _ fz)=>some (e,fz)
 | _=>none
def zJ(h:Heap)(elem size:Nat)(b:Key)(off len n:Nat)(news cs:List AV)(x:Option (Nat × Nat)):Res:=match x with
 | some (el,fz)=>cond (and (Nat.beq el elem) (Nat.ble fz (off+len * size))) (ak (fz - off) (fun fz=>tW P (h.put b .dead) elem size (cat (take (len * size) (drop off cs)) news) (len+n) fz)) (.bad "append frozen")
 | none=>.bad "append dead"
def D7(h:Heap)(elem size:Nat)(b:Key)(off len:Nat)(cap:ACap)(n:Nat)(news cs:List AV):Res:=match cap with
 | .is c=>cond (Nat.ble (len+n) c) (inPlace h b (off+len * size) news (.slice b off (len+n) (.is c))) (tW P h elem size (cat (take (len * size) (drop off cs)) news) (len+n) 0)
 | .more sz=>cond (Nat.beq sz size) (cond (Nat.ble (off+(len+n) * size) (VM.len cs)) (inPlace h b (off+len * size) news (.slice b off (len+n) (.more sz)))
   (zJ P h elem size b off len n news cs (Gc (h.get b)))) (.bad "append size")
def I2(len:Nat)(cap:ACap):Bool:=match cap with
 | .is c=>Nat.ble len c
 | .more _=>true
def nJ(h:Heap)(elem size:Nat)(s:AV)(n:Nat)(news:List AV):Res:=
 match s with
 | .nilSlice=>cond (Nat.beq n 0) (.val .nilSlice h) (cond (nH news) (tW P h elem size news n 0) (.bad "append"))
 | .slice b off len cap=>cond (Nat.beq n 0) (cond (I2 len cap) (.val s h) (.bad "append")) (match nI (h.get b) with | some cs=>cond (Nat.ble (off+len * size) (VM.len cs)) (cond (nH news) (D7 P h elem size b off len cap n news cs) (.bad "append")) (.bad "append len") | none=>.bad "append dead")
 | _=>.bad "append"
def D9(x:Option AV)(dflt most:Nat):Option Nat:=
 match x with
 | none=>some dflt
 | some (.int _ (.ofNat n))=>cond (Nat.ble n most) (some n) none
 | _=>none
def iM(elem:Nat)(h:Heap):Res:=match bK P elem with
  | some z=>h.alloc (.cells elem z.cells false 0) (fun b h=>.val (.ptr b 0) h)
  | none=>.bad "alloc"
def vb(elem:Nat)(v:AV)(h:Heap):Res:=cond v.sure (h.alloc (.cells elem v.cells false 0) (fun b h=>.val (.ptr b 0) h)) (.bad "box")
def g5:List Field→Bool
 | []=>true
 | f::r=>cond (P.info? f.type).isSome (g5 r) false
def ph(t:Nat)(ps:List (Nat × AV))(h:Heap):Res:=match bK P t with
 | some z=>(match P.underlying t with
  | some (.struct fs)=>cond (g5 P fs.toList) (okv ((qj (fun i=>(hd (drop i fs.toList)).map fun f=>(f.offset,aU P f.type)) z.cells ps).map .agg) h "build") (.bad "build")
  | some (.array _ e)=>cond (P.info? e).isSome (okv ((qj (fun i=>some (i * aU P e,aU P e)) z.cells ps).map .agg) h "build") (.bad "build")
  | _=>.bad "build")
 | none=>.bad "build"
def cJ(t n:Nat)(ps:List (Nat × AV))(h:Heap):Res:=match P.underlying t with
  | some (.slice e)=>
   (match bK P e with
   | some z=>cond (and (Nat.beq (len z.cells) (aU P e)) (Nat.ble (n * aU P e) 16777216)) (match qj (fun i=>some (i * aU P e,aU P e)) (rep n z.cells) ps with
    | some cs=>h.alloc (.cells e cs false 0) (fun b h=>.val (.slice b 0 n (.is n)) h)
    | none=>.bad "buildSlice fill") (.bad "buildSlice size")
   | none=>.bad "buildSlice zero")
  | _=>.bad "buildSlice"
def tX(t:Nat)(a:AV)(h:Heap):Res:=match a with
  | .ptr b off=>cond (bQ P t) (okv ((aW h b off (aU P t)).map .agg) h "load agg") (cond (known P t) (okv (fv h b off) h "load") (.bad "load type"))
  | _=>.bad "load: no ptr"
def cK(code i:Nat):Bool:=Nat.beq (Nat.mod (Nat.shiftRight code i) 2) 1
def bG:Nat→Nat→List AV
 | 0,_=>[]
 | n+1,c=>.bool (cK c 0)::bG n (Nat.shiftRight c 1)
def pi(code i:Nat)(v:Bool):Nat:=cond v (Nat.lor code (Nat.shiftLeft 1 i)) (Nat.xor (Nat.lor code (Nat.shiftLeft 1 i)) (Nat.shiftLeft 1 i))
def tY(b:Key)(off:Nat)(x:AV)(h:Heap)(o:Option AObj):Res:=match o,x with
 | some (.bits e n c),.bool v=>cond (Nat.blt off n) (ak (pi c off v) fun c=>.val .undef (h.put b (.bits e n c))) (.bad "store")
 | _,_=>.bad "store"
def xr(t:Nat)(a x:AV)(h:Heap):Res:=match a with
  | .ptr b off=>cond (and (known P t) (Nat.beq (len x.cells) (aU P t))) (match bo h b off x.cells with | some h=>.val .undef h | none=>tY b off x h (h.get b)) (.bad "store size")
  | _=>.bad "store: no ptr"
def EC(v:AV)(h:Heap):Res:=match v with
 | .nilPtr=>.bad "nil"
 | .nilFunc=>.bad "nil"
 | .nilIface=>.bad "nil"
 | .undef=>.bad "undef"
 | .junk=>.bad "junk"
 | v=>.val v h
def xUn(op:UnOp)(v:AV)(h:Heap):Res:=match op,v with
  | .not,.bool b=>boolV (not b) h
  | op,v=>match eh v with | some a=>scalV (aS P (Op.unary op a)) h "unOp" | none=>.bad "unOp"
def aM:List AV→Bool
 | []=>true
 | .int .u8 (.ofNat n)::r=>cond (Nat.blt n 256) (aM r) false
 | _=>false
def aB:List AV→Nat
 | []=>0
 | .int _ (.ofNat n)::r=>n+256 * aB r
 | _::r=>256 * aB r
def jC(t:Nat):Bool:=match P.underlying t with | some .string=>true | _=>false
def nK(src dst l c:Nat)(h:Heap):Res:=match P.underlying dst with
  | some .string=>cond (known P src) (.val (.str l c) h) (.bad "convert str")
  | some (.slice e)=>cond (and (dK P e) (jC P src)) (h.alloc (.cells e (az l c) true 0) (fun b h=>.val (.slice b 0 l (.more 1)) h)) (.bad "convert str")
  | _=>.bad "convert str"
def nL(src dst:Nat)(b:Key)(off:Nat)(h:Heap):Res:=match h.get b with
  | some (.cells e cs false 0)=>(match P.underlying src,P.underlying dst with
   | some (.pointer t),some .unsafePointer=>cond (and (Nat.blt off (len cs)) (not (Nat.beq (aU P t) 0))) (.val (.ptr b off) h) (.bad "unsafe")
   | some .unsafePointer,some (.pointer u)=>cond (and (gU P u) (liesAt P P.depth e (len cs / P.cellsOf e) off u 1)) (.val (.ptr b off) h) (.bad "unsafe")
   | _,_=>.bad "convert ptr")
  | _=>.bad "convert ptr"
def dM(k:Nat)(t:RT Nat)(off len:Nat)(h:Heap):Res:=cond (and (and (Nat.beq (Nat.mod off 256) 0) (Nat.beq (Nat.mod len 256) 0)) (and (Nat.ble (off / 256+len / 256) k) (Nat.ble len 1000000))) (ak (bR t (len / 256) (off / 256)) (fun c=>.val (.str len c) h)) (.bad "pack")
def jD(i:Nat):List (Nat × AV)→Option AV
 | []=>none
 | p::r=>cond (Nat.beq p.1 i) (some p.2) (jD i r)
def iX(i:Nat):List (Nat × AV)→List (Nat × AV)
 | []=>[]
 | p::r=>cond (Nat.beq p.1 i) (iX i r) (p::iX i r)
def xu(lo hi:Nat):List (Nat × AV)→Bool
 | []=>true
 | p::r=>cond (and (Nat.ble lo p.1) (Nat.blt p.1 hi)) false (xu lo hi r)
def IH(o:Option AV)(h:Heap)(r:Res):Res:=match o with
 | some v=>.val v h
 | none=>r
def nM(k:Nat)(t:RT Nat)(ov:List (Nat × AV))(off len:Nat)(h:Heap):Res:=cond (and (and (Nat.beq (Nat.mod off 256) 0) (Nat.beq (Nat.mod len 256) 0)) (and (Nat.ble (off / 256+len / 256) k) (Nat.ble len 1000000)))
 (cond (Nat.beq len 256) (IH (jD (off / 256) ov) h (dM k t off len h)) (cond (xu (off / 256) (off / 256+len / 256) ov) (dM k t off len h) (.bad "packo"))) (.bad "packo")
def packConv(v:AV)(h:Heap)(r:Res):Res:=match v with
 | .slice b off len _=>(match h.get b with
  | some (.pack _ k t)=>dM k t off len h
  | some (.packo _ k t ov)=>nM k t ov off len h
  | some (.bytes _ n)=>cond (and (Nat.ble (off+len) n) (Nat.ble len 1000000)) (.val (.ustr len) h) (.bad "bytes")
  | _=>r)
 | _=>r
def jE(b:Key)(l:Nat)(cs:List AV):List Nat→Option (List AV)
 | []=>some []
 | d::r=>cond (aM (aT b d cs)) (match jE b l cs r with | some vs=>some (.str l (aB (aT b d cs))::vs) | none=>none) none
def xw(l:Nat)(cs:List AV):Option AV:=cond (aM cs) (some (.str l (aB cs))) none
def nN(b:Key)(l:Nat)(cs:List AV)(ds:List Nat):Option (List AV):=match cI (xw l) b ds cs with
 | some rs=>some rs
 | none=>jE b l cs ds
def Gd(b:Key)(ds:List Nat)(rs:Option (List AV))(h:Heap):Res:=match rs with
 | some (v::r)=>.val (.tab b ds (v::r)) h
 | _=>.bad "bytes"
def tabConv(l:Nat)(cs:List AV)(h:Heap):Res:=match jA cs with
 | some b=>cond (Nat.ble l 1000000) (Gd b (b9 (h.get b)) (nN b l cs (b9 (h.get b))) h) (.bad "long")
 | none=>.bad "bytes"
def xx(src dst:Nat)(v:AV)(h:Heap):Res:=match P.underlying src,P.underlying dst with
  | some (.slice e),some .string=>cond (dK P e) (packConv v h (sliceCells h 1 (fun l cs=>cond (aM cs) (strV l (aB cs) h) (tabConv l cs h)) v)) (.bad "convert")
  | _,_=>.bad "convert"
def nO(src dst:Nat)(k:IntKind)(m:Bool)(c j:Nat)(h:Heap):Res:=match P.underlying src,P.underlying dst with
 | some (.int .i64),some (.int .u64)=>cond (and (not m) (Nat.beq (aj k) (aj .i64))) (.val (.red .u64 m c j) h) (.bad "convert red")
 | _,_=>.bad "convert red"
def kT(src dst:Nat)(k:IntKind)(m:Bool)(c:Nat)(s:Key)(h:Heap):Res:=match P.underlying src,P.underlying dst with
 | some (.int .i64),some (.int .u64)=>cond (and (not m) (Nat.beq (aj k) (aj .i64))) (.val (.reds .u64 m c s) h) (.bad "convert reds")
 | _,_=>.bad "convert reds"
def fw(src dst:Nat)(v:AV)(h:Heap):Res:=match v with
 | .int k n=>scalV (aS P (Go.convert src dst (.int k n))) h "convert"
 | .float k n=>scalV (aS P (Go.convert src dst (.float k n))) h "convert"
 | .str l c=>nK P src dst l c h
 | .ptr b off=>nL P src dst b off h
 | .red k m c j=>nO P src dst k m c j h
 | .reds k m c s=>kT P src dst k m c s h
 | .tab _ _ _=>.bad "convert tab"
 | .ustr _=>.bad "convert ustr"
 | v=>xx P src dst v h
def Jo(z:AV):Bool:=match z with
 | .int .u8 (.ofNat 0)=>true
 | _=>false
def tZ(e c:Nat)(z:AV):Bool:=and (and (dK P e) (Jo z)) (and (Nat.beq (Nat.mod c 256) 0) (Nat.ble 16384 c))
def isF(z:AV):Bool:=match z with
 | .bool false=>true
 | _=>false
def zK(e l c:Nat)(z:AV)(h:Heap):Res:=cond (tZ P e c z) (h.alloc (.pack e (c / 256) RT.nil) (fun b h=>.val (.slice b 0 l (.is c)) h)) (cond (and (isF z) (Nat.ble 4096 c)) (h.alloc (.bits e c 0) (fun b h=>.val (.slice b 0 l (.is c)) h)) (h.alloc (.cells e (rep c z.cells) false 0) (fun b h=>.val (.slice b 0 l (.is c)) h)))
def dr(t:Nat)(l c:AV)(h:Heap):Res:=match P.underlying t,l,c with
  | some (.slice e),.int _ (.ofNat l),.int _ (.ofNat c)=>
   (match bK P e with
   | some z=>cond (and (and (Nat.ble l c) (Nat.beq (len z.cells) (aU P e))) (and (Nat.ble c 8388608) (Nat.ble (iJ P e) 1000000))) (zK P e l c z h) (.bad "makeSlice")
   | none=>.bad "makeSlice")
  | _,_,_=>.bad "makeSlice"
def bnd(x:Option AV)(dflt most:Nat)(k:Nat→Res):Res:=match D9 x dflt most with | some n=>k n | none=>.bad "slice bounds"
def sliceIs(size:Nat)(b:Key)(off len c:Nat)(lo hi mx:Option AV)(h:Heap):Res:=cond (and mx.isSome hi.isNone) (.bad "slice: max without high") <|
 bnd mx c c (fun m=>bnd hi (match mx with | none=>len | some _=>0) m (fun hi=>bnd lo 0 hi (fun l=>ak (cond (Nat.beq m l) off (off+l * size)) (fun o=>ak (hi - l) (fun n=>ak (m - l) (fun c=>.val (.slice b o n (.is c)) h))))))
def sliceMore(size:Nat)(b:Key)(off len:Nat)(lo hi:Option AV)(h:Heap):Res:=
 bnd hi len len (fun hi=>bnd lo 0 hi (fun l=>cond (Nat.beq l 0) (.val (.slice b off hi (.more size)) h) (cond (Nat.blt l len) (ak (off+l * size) (fun o=>ak (hi - l) (fun n=>.val (.slice b o n (.more size)) h))) (.val .emptyS h))))
def m8(t:Nat)(v:AV)(lo hi mx:Option AV)(h:Heap):Res:=match v with
  | .str len code=>(match P.underlying t,mx with
   | some .string,none=>bnd hi len len (fun hi=>bnd lo 0 hi (fun l=>strV (hi - l) (pe code l (hi - l)) h))
   | _,_=>.bad "slice str")
  | .ustr len=>(match P.underlying t,mx with
   | some .string,none=>bnd hi len len (fun hi=>bnd lo 0 hi (fun l=>ak (hi - l) (fun n=>.val (.ustr n) h)))
   | _,_=>.bad "slice str")
  | .nilSlice=>(match P.underlying t,mx with
   | some (.slice e),none=>cond (not (gU P e)) (.bad "slice") <| bnd hi 0 0 (fun _=>bnd lo 0 0 (fun _=>.val .nilSlice h))
   | _,_=>.bad "slice")
  | .emptyS=>(match P.underlying t,mx with
   | some (.slice e),none=>cond (not (gU P e)) (.bad "slice") <| bnd hi 0 0 (fun _=>bnd lo 0 0 (fun _=>.val .emptyS h))
   | _,_=>.bad "slice")
  | .slice b off len cap=>(match P.underlying t with
   | some (.slice e)=>(match cap with
    | .is c=>cond (gU P e) (sliceIs (aU P e) b off len c lo hi mx h) (.bad "slice")
    | .more sz=>(match mx with | none=>cond (and (gU P e) (Nat.beq sz (aU P e))) (sliceMore sz b off len lo hi h) (.bad "slice size") | some _=>.bad "slice max open"))
   | _=>.bad "slice")
  | .ptr b off=>(match P.underlying t with
   | some (.array n e)=>cond (gU P e) (sliceIs (aU P e) b off n n lo hi mx h) (.bad "slice")
   | _=>.bad "slice")
  | _=>.bad "slice"
def g6(s f:Nat):Option Field:=match P.underlying s with | some (.struct fs)=>hd (drop f fs.toList) | _=>none
def u9(s f:Nat):Nat:=((g6 P s f).map (·.offset)).getD 0
def nP(s f:Nat):Bool:=match g6 P s f with | some fd=>not (Nat.beq (aU P fd.type) 0) | none=>false
def ei(s f:Nat)(v:AV)(h:Heap):Res:=match v with
  | .ptr b off=>cond (nP P s f) (ak (off+u9 P s f) (fun o=>.val (.ptr b o) h)) (.bad "fieldAddr")
  | _=>.bad "fieldAddr"
def ua(s f:Nat)(v:AV)(h:Heap):Res:=match v with
  | .agg cs=>(match g6 P s f with | some fd=>okv (jz P fd.type fd.offset cs) h "field" | none=>.bad "field")
  | _=>.bad "field"
def idx(x:AV)(k:Nat→Res):Res:=match x with | .int _ (.ofNat n)=>k n | _=>.bad "index"
def cL(t:Nat)(v i:AV)(h:Heap):Res:=idx i (fun i=>match v with
  | .slice b off n _=>cond (Nat.blt i n) (match P.underlying t with | some (.slice e)=>cond (gU P e) (ak (off+i * aU P e) (fun o=>.val (.ptr b o) h)) (.bad "indexAddr") | _=>.bad "indexAddr") (.bad "indexAddr bounds")
  | .ptr b off=>(match P.underlying t with
   | some (.array n e)=>cond (and (gU P e) (Nat.blt i n)) (ak (off+i * aU P e) (fun o=>.val (.ptr b o) h)) (.bad "indexAddr bounds")
   | _=>.bad "indexAddr")
  | _=>.bad "indexAddr")
def ub(t:Nat)(v i:AV)(h:Heap):Res:=idx i (fun i=>match v with
  | .str n code=>cond (Nat.blt i n) (ak (Nat.mod (Nat.shiftRight code (8 * i)) 256) (fun c=>.val (.int .u8 (Int.ofNat c)) h)) (.bad "index bounds")
  | .agg cs=>(match P.underlying t with
   | some (.array n e)=>cond (Nat.blt i n) (okv (jz P e (i * aU P e) cs) h "index") (.bad "index bounds")
   | _=>.bad "index")
  | _=>.bad "index")
def ct(kt et:Nat)(es:List (AV × AV × Nat))(k:AV)(cok:Bool)(h:Heap):Res:=match dm P h kt k es with
       | some (some v)=>.val (cond cok (.tup [v,.bool true]) v) h
       | some none=>(match bK P et with
        | some z=>.val (cond cok (.tup [z,.bool false]) z) h
        | none=>.bad "lookup zero")
       | none=>.bad "lookup key"
def gV(kt et:Nat)(es:List (AV × AV))(k:AV)(cok:Bool)(h:Heap):Res:=match wq P h kt k es with
       | some (some v)=>.val (cond cok (.tup [v,.bool true]) v) h
       | some none=>(match bK P et with
        | some z=>.val (cond cok (.tup [z,.bool false]) z) h
        | none=>.bad "lookup zero")
       | none=>.bad "lookup key"
def qP(x y:Option AV):Bool:=match x,y with
 | none,none=>true
 | some (.ptr b o),some (.ptr b' o')=>and (Key.same b b') (Nat.beq o o')
 | _,_=>false
def qQ(kt:Nat)(k:AV)(h:Heap)(r:Option AV):List (List (AV × AV × Nat) × Nat)→Bool
 | []=>true
 | v::vs=>match dm P h kt k v.1 with
  | some r'=>cond (qP r r') (qQ kt k h r vs) false
  | none=>false
def jF(kt et:Nat)(vs:List (List (AV × AV × Nat) × Nat))(k:AV)(cok:Bool)(h:Heap):Res:=match vs with
 | []=>.bad "lookup variants"
 | v::_=>(match dm P h kt k v.1 with
  | some r=>cond (qQ P kt k h r vs) (ct P kt et v.1 k cok h) (.bad "lookup variants")
  | none=>.bad "lookup key")
def keyT(kt:Nat):Bool:=match P.underlying kt with | some (.int _)=>true | some .string=>true | some .bool=>true | some (.pointer _)=>true | _=>false
def eI:List (AV × AV × Key)→List (AV × AV)
 | []=>[]
 | e::r=>(e.1,e.2.1)::eI r
def iN(t:Nat)(m k:AV)(cok:Bool)(h:Heap):Res:=match P.underlying t with
  | some (.map kt et)=>cond (keyT P kt) (match m with
   | .nilMap=>ct P kt et [] k cok h
   | .map m=>(match h.get m with | some (.map es _)=>ct P kt et es k cok h | some (.lmap es)=>gV P kt et es k cok h | some (.smap es _)=>gV P kt et (eI es) k cok h | some (.mapAlt vs)=>jF P kt et vs k cok h | _=>.bad "lookup map")
   | _=>.bad "lookup") (.bad "lookup key type")
  | _=>.bad "lookup"
def intT(kt:Nat):Bool:=match P.underlying kt with | some (.int _)=>true | _=>false
def Da(l:Nat)(v:AV):Bool:=match v with
 | .str n _=>Nat.beq n l
 | .ustr n=>Nat.beq n l
 | _=>false
def BJ(l:Nat)(m:Option (Int × AV)):Bool:=match m with
 | some p=>Da l p.2
 | none=>true
def Jp(kt:Nat)(m:Option (Int × AV))(l n:Nat)(b:Key)(k v:AV)(h:Heap):Res:=match k with
 | .int .i64 a=>cond (and (intT P kt) (and (Da l v) (BJ l m))) (ak (n+1) fun n=>.val .undef (h.put b (.umap (some (a,v)) l n))) (.bad "mapUpdate unknown")
 | _=>.bad "mapUpdate unknown"
def iO(t:Nat)(m k v:AV)(h:Heap):Res:=match P.underlying t,m with
  | some (.map kt _),.map b=>cond (keyT P kt) (match h.get b with
   | some (.map es clock)=>(match iK P h kt k v clock es with
    | some (es,true)=>.val .undef (h.put b (.map es (clock+1)))
    | some (es,false)=>.val .undef (h.put b (.map es clock))
    | none=>.bad "mapUpdate key")
   | some (.lmap es)=>(match EA P h kt k v es with
    | some (es,_)=>.val .undef (h.put b (.lmap es))
    | none=>.bad "mapUpdate key")
   | some (.umap m l n)=>Jp P kt m l n b k v h
   | _=>.bad "mapUpdate") (.bad "mapUpdate key type")
  | _,_=>.bad "mapUpdate"
def nQ:List (AV × AV)→Heap→(List (AV × AV × Key)→Heap→Res)→Res
 | [],h,k=>k [] h
 | e::r,h,k=>h.alloc .dead (fun b h=>nQ r h (fun l h=>k ((e.1,e.2,b)::l) h))
def keysS:List (AV × AV × Key)→List Key
 | []=>[]
 | e::r=>e.2.2::keysS r
def BK(m:Key)(l:List (AV × AV × Key))(h:Heap):Res:=h.alloc .dead (fun c h=>(h.put m (.smap l c)).alloc (.smiter m (keysS l) [] c) (fun b h=>.val (.ptr b 0) h))
def vc(b:Key):List Key→Bool
 | []=>false
 | a::r=>cond (Key.same a b) true (vc b r)
def I3(all:List Key):List Key→Bool
 | []=>true
 | a::r=>cond (vc a all) (I3 all r) false
def xy:List Key→List Key→Bool
 | [],[]=>true
 | a::r,b::s=>cond (Key.same a b) (xy r s) false
 | _,_=>false
def qm(seen:List Key):List (AV × AV × Key)→List (AV × AV × Key)
 | []=>[]
 | e::r=>cond (vc e.2.2 seen) (qm seen r) (e::qm seen r)
def Ge(b m:Key)(all seen:List Key)(ck:Key)(h:Heap):List (AV × AV × Key)→List (AV × Heap)
 | []=>[]
 | (k,v,c)::r=>(.tup [.bool true,k,v],h.put b (.smiter m all (cat seen [c]) ck))::Ge b m all seen ck h r
def Gf(b m:Key)(all seen:List Key)(ck:Key)(h:Heap)(l:List (AV × AV × Key)):Res:=match l with
 | []=>.val (.tup [.bool false]) h
 | [(k,v,c)]=>.val (.tup [.bool true,k,v]) (h.put b (.smiter m all (cat seen [c]) ck))
 | l=>.alts (Ge b m all seen ck h l)
def xz(b m:Key)(all seen:List Key)(h:Heap):Res:=match h.get m with
 | some (.smap es ck)=>cond (and (xy all (keysS es)) (I3 all seen)) (Gf b m all seen ck h (qm seen es)) (.bad "next ages")
 | _=>.bad "next map"
def xA(v:AV)(h:Heap):Res:=match v with
  | .str len code=>h.alloc (.siter len code 0) (fun b h=>.val (.ptr b 0) h)
  | .nilMap=>h.alloc (.miter none 0 [] 0) (fun b h=>.val (.ptr b 0) h)
  | .map m=>(match h.get m with
   | some (.map _ clock)=>h.alloc (.miter (some m) clock [] clock) (fun b h=>.val (.ptr b 0) h)
   | some (.lmap es)=>nQ es h (fun l h=>BK m l h)
   | _=>.bad "range")
  | _=>.bad "range"
def ba(seen:List Nat):List (AV × AV × Nat)→List (AV × AV × Nat)
 | []=>[]
 | e::r=>cond (seen.any (fun n=>Nat.beq n e.2.2)) (ba seen r) (e::ba seen r)
def m9(last:Nat):List (AV × AV × Nat)→Bool
 | []=>false
 | e::r=>cond (Nat.blt e.2.2 last) true (m9 last r)
def gn(since:Nat):List (AV × AV × Nat)→Bool
 | []=>true
 | e::r=>cond (Nat.blt e.2.2 since) (gn since r) false
def jG(b m:Key)(since:Nat)(seen:List Nat)(clock:Nat)(h:Heap):List (AV × AV × Nat)→List (AV × Heap)
 | []=>[]
 | (k,v,c)::r=>(.tup [.bool true,k,v],h.put b (.miter (some m) since (cat seen [c]) clock))::jG b m since seen clock h r
def xB(b m:Key)(since:Nat)(seen:List Nat)(clock:Nat)(h:Heap)(l:List (AV × AV × Nat)):Res:=match l with
  | []=>.val (.tup [.bool false]) h
  | [(k,v,c)]=>cond (Nat.blt c since) (.val (.tup [.bool true,k,v]) (h.put b (.miter (some m) since (cat seen [c]) clock))) (.bad "next: new")
  | l=>cond (gn since l) (.alts (jG b m since seen clock h l)) (.bad "next: new")
def uc(b m:Key)(since:Nat)(seen:List Nat)(last:Nat)(es:List (AV × AV × Nat))(clock:Nat)(h:Heap):Res:=
 cond (or (or seen.isEmpty es.isEmpty) (m9 last es)) (xB b m since seen clock h (ba seen es)) (.bad "next")
def Gg(b:Key)(len code pos:Nat)(h:Heap):Res:=cond (Nat.blt pos len)
     (ak (Nat.mod (Nat.shiftRight code (8 * pos)) 256) (fun c=>cond (Nat.blt c 128) (.val (.tup [.bool true,.int .i64 (Int.ofNat pos),.int .i32 (Int.ofNat c)]) (h.put b (.siter len code (pos+1)))) (.bad "next utf8")))
     (.val (.tup [.bool false]) h)
def Gh(b m:Key)(since:Nat)(seen:List Nat)(last:Nat)(h:Heap):Res:=match h.get m with
       | some (.map es clock)=>uc b m since seen last es clock h
       | _=>.bad "next map"
def Db(b:Key)(isStr:Bool)(h:Heap):Res:=match h.get b with
   | some (.miter none _ _ _)=>cond isStr (.bad "next") (.val (.tup [.bool false]) h)
   | some (.miter (some m) since seen last)=>cond isStr (.bad "next") (Gh b m since seen last h)
   | some (.siter len code pos)=>cond isStr (Gg b len code pos h) (.bad "next")
   | some (.smiter m all seen _)=>cond isStr (.bad "next") (xz b m all seen h)
   | _=>.bad "next"
def Gi(it:AV)(isStr:Bool)(h:Heap):Res:=match it with
  | .ptr b off=>cond (Nat.beq off 0) (Db b isStr h) (.bad "next")
  | _=>.bad "next"
def Dc(x:Key):List (AV × AV × Key)→Option (AV × AV)
 | []=>none
 | e::r=>cond (Key.same e.2.2 x) (some (e.1,e.2.1)) (Dc x r)
def Gj(o:Option (AV × AV))(h:Heap):Res:=match o with
 | some p=>.val (.tup [p.1,p.2]) h
 | none=>.bad "entry"
def ud(m:Key)(seen:List Key)(c:Key)(h:Heap):Res:=match h.get m,seen.getLast? with
 | some (.smap es ck),some x=>cond (Key.same ck c) (Gj (Dc x es) h) (.bad "entry clock")
 | _,_=>.bad "entry"
def zL(b:Key)(h:Heap):Res:=match h.get b with
   | some (.miter (some m) _ seen stepped)=>(match h.get m,seen.getLast? with
    | some (.map es clock),some st=>cond (Nat.beq clock stepped) (match es.find? (fun e=>Nat.beq e.2.2 st) with
      | some (k,v,_)=>.val (.tup [k,v]) h
      | none=>.bad "entry") (.bad "entry clock")
    | _,_=>.bad "entry")
   | some (.smiter m _ seen c)=>ud m seen c h
   | _=>.bad "entry"
def BL(it:AV)(h:Heap):Res:=match it with
  | .ptr b off=>cond (Nat.beq off 0) (zL b h) (.bad "entry")
  | _=>.bad "entry"
def ED(want:Nat)(cok:Bool)(h:Heap):Res:=cond cok (match bK P want with | some z=>.val (.tup [z,.bool false]) h | none=>.bad "typeAssert zero") (.bad "typeAssert fails")
def nS(v:AV)(want:Nat)(cok:Bool)(h:Heap):Res:=match v with
   | .iface t v=>cond (Nat.beq t want) (.val (cond cok (.tup [v,.bool true]) v) h) (ED P want cok h)
   | .nilIface=>ED P want cok h
   | _=>.bad "typeAssert"
def kV(v:AV)(want:Nat)(cok:Bool)(h:Heap):Res:=match P.underlying want with
  | some (.interface _)=>.bad "typeAssert iface"
  | none=>.bad "typeAssert"
  | _=>nS P v want cok h
def gW(v:AV)(i:Nat)(h:Heap):Res:=match v with
  | .tup vs=>okv (hd (drop i vs)) h "extract"
  | _=>.bad "extract"
def Gk(v:AV)(h:Heap):Res:=match v with
  | .iface t v=>.pan (.iface t v) h
  | _=>.bad "panic"
def jH(c:Call)(T:Slots)(h:Heap):Res:=match c.callee with
  | .value f=>(match ev P T f with
   | .func (.func g) first cap=>.defer ⟨.func g,cap,cat first (evs P T c.args.toList)⟩ h
   | _=>.bad "defer")
  | _=>.bad "defer"
def zM(t:Nat)(x:AV)(h:Heap):Res:=match P.underlying t with
 | some .string=>(match x with | .str l _=>.val (.int .i64 (Int.ofNat l)) h | .ustr l=>.val (.int .i64 (Int.ofNat l)) h | _=>.bad "len")
 | some (.slice _)=>(match x with | .nilSlice=>.val (.int .i64 0) h | .emptyS=>.val (.int .i64 0) h | .slice _ _ l _=>.val (.int .i64 (Int.ofNat l)) h | _=>.bad "len")
 | some (.map _ _)=>(match x with | .nilMap=>.val (.int .i64 0) h | .map m=>(match h.get m with | some (.map es _)=>.val (.int .i64 (Int.ofNat (len es))) h | some (.lmap es)=>.val (.int .i64 (Int.ofNat (len es))) h | some (.smap es _)=>.val (.int .i64 (Int.ofNat (len es))) h | _=>.bad "len map") | _=>.bad "len")
 | some (.array n _)=>.val (.int .i64 (Int.ofNat n)) h
 | some (.pointer a)=>(match P.underlying a with | some (.array n _)=>.val (.int .i64 (Int.ofNat n)) h | _=>.bad "len")
 | _=>.bad "len"
def kW(t:Nat):Bool:=match P.underlying t with | some (.slice _)=>true | some .string=>true | _=>false
def ue(e:Nat):Bool:=match P.info? e with
 | some i=>(match i.zero with | some Z=>Nat.beq Z.cells.size i.size | none=>false)
 | none=>false
def Dd(e n:Nat)(z:AV)(h:Heap):Res:=cond (and (and (Nat.ble 1 n) (Nat.beq (len z.cells) (aU P e))) (and (Nat.ble n 1000000) (Nat.ble (iJ P e) 1000000))) (tW P h e (aU P e) (rep n z.cells) n 0) (.bad "append zeros")
def uf(e t1:Nat)(s x:AV)(h:Heap):Res:=match P.underlying t1,s,x,bK P e with
 | some (.int _),.nilSlice,.int _ (.ofNat n),some z=>Dd P e n z h
 | _,_,_,_=>.bad "append"
def xC(t t1:Nat)(s x:AV)(h:Heap):Res:=match P.underlying t with
 | some (.slice e)=>cond (and (gU P e) (ue P e)) (cond (kW P t1) (sliceCells h (aU P e) (fun n news=>nJ P h e (aU P e) s n news) x) (uf P e t1 s x h)) (.bad "append")
 | _=>.bad "append"
def gp(size:Nat)(d:AV)(n:Nat)(cs:List AV)(h:Heap):Res:=match d with
 | .slice b off dl _=>(match bo h b off (take (min n dl * size) cs) with | some h=>.val (.int .i64 (Int.ofNat (min n dl))) h | none=>.bad "copy")
 | .nilSlice=>.val (.int .i64 0) h
 | .emptyS=>.val (.int .i64 0) h
 | _=>.bad "copy"
def xD(t:Nat)(m k:AV)(h:Heap):Res:=match m with
   | .nilMap=>(match P.underlying t with | some (.map kt _)=>cond (keyT P kt) (.val .undef h) (.bad "delete") | _=>.bad "delete")
   | .map m=>(match P.underlying t with
    | some (.map kt _)=>cond (keyT P kt) (match h.get m with
     | some (.map es clock)=>(match iL P h kt k es with | some es=>.val .undef (h.put m (.map es clock)) | none=>.bad "delete")
     | some (.lmap es)=>(match EB P h kt k es with | some es=>.val .undef (h.put m (.lmap es)) | none=>.bad "delete")
     | _=>.bad "delete") (.bad "delete key type")
    | _=>.bad "delete")
   | _=>.bad "delete"
def jI:List AV→Bool
 | []=>true
 | .int .u8 (.ofNat n)::r=>cond (Nat.blt n 256) (jI r) false
 | .byte::r=>jI r
 | _=>false
def II(n:Nat)(bs:List AV)(h:Heap):Res:=cond (jI bs) (cond (Nat.ble n 1000000) (.val (.ustr n) h) (.bad "long")) (tabConv n bs h)
def gq(pt:Nat)(b:Key)(off n:Nat)(h:Heap):Res:=match P.underlying pt,h.get b with
 | some (.pointer u),some (.cells e cs _ _)=>cond (and (and (Nat.beq u e) (dK P e)) (and (Nat.beq (aU P e) 1) (not (Nat.beq n 0))))
   (match aW h b off n with
   | some bs=>cond (aM bs) (strV n (aB bs) (h.put b (.fixed e cs))) (II n bs (h.put b (.fixed e cs)))
   | none=>.bad "unsafeString") (.bad "unsafeString")
 | _,_=>.bad "unsafeString"
def Gl(t:Nat):Bool:=match P.underlying t with | some (.slice _)=>true | _=>false
def iY(ts:List Nat)(k:Nat→Res):Res:=match ts with
 | t::_=>k t
 | []=>.bad "types"
def Gm(t:Nat)(x:AV)(h:Heap):Res:=cond (Gl P t) (match x with
  | .nilSlice=>.val (.int .i64 0) h
  | .slice _ _ _ (.is c)=>.val (.int .i64 (Int.ofNat c)) h
  | _=>.bad "cap") (.bad "cap")
def nT(b:Key)(e k:Nat)(t:RT Nat)(off dl l c size:Nat)(h:Heap):Res:=cond (and (and (Nat.beq l 256) (Nat.ble 256 dl)) (and (and (Nat.beq size 1) (Nat.beq (Nat.mod off 256) 0)) (and (Nat.blt (off / 256) k) (Nat.ble k 32768)))) (.val (.int .i64 (Int.ofNat 256)) (h.put b (.pack e k (t.set c (keyN (off / 256)))))) (.bad "copy pack")
def ug(b:Key)(e k:Nat)(t:RT Nat)(ov:List (Nat × AV))(off dl l c size:Nat)(h:Heap):Res:=cond (and (and (Nat.beq l 256) (Nat.ble 256 dl)) (and (and (Nat.beq size 1) (Nat.beq (Nat.mod off 256) 0)) (and (Nat.blt (off / 256) k) (Nat.ble k 32768)))) (.val (.int .i64 (Int.ofNat 256)) (h.put b (.packo e k (t.set c (keyN (off / 256))) (iX (off / 256) ov)))) (.bad "copy pack")
def uh:List AV→Bool
 | []=>true
 | .str l _::r=>cond (Nat.beq l 256) (uh r) false
 | _::_=>false
def nU(b:Key)(e k:Nat)(t:RT Nat)(ov:List (Nat × AV))(off dl:Nat)(v:AV)(vs:List AV)(size:Nat)(h:Heap):Res:=cond (and (and (uh vs) (Nat.ble 256 dl)) (and (and (Nat.beq size 1) (Nat.beq (Nat.mod off 256) 0)) (and (Nat.blt (off / 256) k) (Nat.ble k 32768)))) (ak (off / 256) fun i=>.val (.int .i64 (Int.ofNat 256)) (h.put b (.packo e k t ((i,v)::iX i ov)))) (.bad "copy pack")
def kX(n off dl l size:Nat)(h:Heap):Res:=cond (and (Nat.beq size 1) (Nat.ble (off+dl) n)) (ak (min l dl) (fun m=>.val (.int .i64 (Int.ofNat m)) h)) (.bad "copy bytes")
def ui(size:Nat)(d s:AV)(h:Heap)(r:Res):Res:=match d,s with
 | .slice b off dl _,.str l c=>(match h.get b with
  | some (.pack e k t)=>nT b e k t off dl l c size h
  | some (.packo e k t ov)=>ug b e k t ov off dl l c size h
  | some (.bytes _ n)=>kX n off dl l size h
  | _=>r)
 | .slice b off dl _,.ustr l=>(match h.get b with
  | some (.bytes _ n)=>kX n off dl l size h
  | _=>r)
 | .slice b off dl _,.tab s ds vs=>(match h.get b with
  | some (.pack e k t)=>nU b e k t [] off dl (.tab s ds vs) vs size h
  | some (.packo e k t ov)=>nU b e k t ov off dl (.tab s ds vs) vs size h
  | _=>r)
 | _,_=>r
def Gn(t:Nat)(d s:AV)(h:Heap):Res:=match P.underlying t with
 | some (.slice e)=>cond (gU P e) (ui (aU P e) d s h <| sliceCells h (aU P e) (fun n cs=>gp (aU P e) d n cs h) s) (.bad "copy")
 | _=>.bad "copy"
def zN(ts:List Nat)(s x:AV)(h:Heap):Res:=match ts with
 | t::t1::_=>xC P t t1 s x h
 | _=>.bad "append"
def BN(t:Nat)(x:AV)(h:Heap):Res:=cond (known P t) (match x with
 | .nilMap=>.val .undef h
 | .nilSlice=>.val .undef h
 | .emptyS=>.val .undef h
 | .map m=>(match h.get m with
  | some (.map _ clock)=>.val .undef (h.put m (.map [] clock))
  | some (.umap _ _ _)=>.val .undef (h.put m (.lmap []))
  | _=>.bad "clear")
 | _=>.bad "clear") (.bad "clear")
def uj(x:AV)(h:Heap):Res:=match x with
 | .nilSlice=>.val .nilPtr h
 | .slice b off l (.more _)=>cond (Nat.beq l 0) (.bad "unsafeSliceData") (.val (.ptr b off) h)
 | .slice b off _ (.is c)=>cond (Nat.beq c 0) (.bad "unsafeSliceData") (.val (.ptr b off) h)
 | _=>.bad "unsafeSliceData"
def uk(t:Nat)(p n:AV)(h:Heap):Res:=match n with
 | .int _ (.ofNat n)=>cond (Nat.beq n 0) (match p with
   | .nilPtr=>.val (.str 0 0) h
   | .ptr _ _=>.val (.str 0 0) h
   | _=>.bad "unsafeString") (match p with
   | .ptr b off=>gq P t b off n h
   | _=>.bad "unsafeString")
 | _=>.bad "unsafeString"
def pj(k:IntKind)(a:Int)(h:Heap):List AV→Res
 | []=>.val (.int k a) h
 | .int _ b::r=>cond (eH b a) (pj k b h r) (pj k a h r)
 | _::_=>.bad "min"
def pm(k:IntKind)(a:Int)(h:Heap):List AV→Res
 | []=>.val (.int k a) h
 | .int _ b::r=>cond (eH a b) (pm k b h r) (pm k a h r)
 | _::_=>.bad "max"
def De(args:List AV)(h:Heap):Res:=match args with
 | .int k a::r=>pj k a h r
 | _=>.bad "min"
def Df(args:List AV)(h:Heap):Res:=match args with
 | .int k a::r=>pm k a h r
 | _=>.bad "max"
def vd(args:List AV)(k:AV→Res):Res:=match args with
 | [x]=>k x
 | _=>.bad "one argument"
def zO(args:List AV)(k:AV→AV→Res):Res:=match args with
 | [x,y]=>k x y
 | _=>.bad "two arguments"
def cN(b:Builtin)(ts:List Nat)(args:List AV)(h:Heap):Res:=match b with
  | .len=>vd args (fun x=>iY ts (fun t=>zM P t x h))
  | .append=>zO args (fun s x=>zN P ts s x h)
  | .copy=>zO args (fun d s=>iY ts (fun t=>Gn P t d s h))
  | .delete=>zO args (fun m k=>iY ts (fun t=>xD P t m k h))
  | .recover=>.recover h
  | .min=>De args h
  | .max=>Df args h
  | .cap=>vd args (fun x=>iY ts (fun t=>Gm P t x h))
  | .clear=>vd args (fun x=>iY ts (fun t=>BN P t x h))
  | .unsafeString=>zO args (fun p n=>iY ts (fun t=>uk P t p n h))
  | .unsafeSliceData=>vd args (fun x=>uj x h)
  | _=>.bad "builtin"
def jJ(f:AV)(args:List AV)(h:Heap):Res:=match f with
   | .func g first cap=>(match g with
    | .func g=>.enter g (cat first (cat args cap)) h
    | .yield l=>.round l args h)
   | _=>.bad "call value"
def IJ(c:Call)(T:Slots)(h:Heap):Res:=Call.rec (motive:=fun _=>Res) (fun callee args ts=>Callee.casesOn (motive:=fun _=>Res) callee
 (fun f=>jJ (ev P T f) (evs P T args.toList) h) (fun _ _=>.bad "invoke") (fun b=>cN P b ts.toList (evs P T args.toList) h)) c
def zP(c a b:AV)(h:Heap):Res:=match c with | .bool t=>.val (cond t a b) h | _=>.bad "pick"
def l8(T:Slots)(x:Option Operand):Option AV:=Option.rec (motive:=fun _=>Option AV) none (fun x=>some (ev P T x)) x
def zQ(f:Fn)(a b:List AV)(h:Heap):Res:=match f with | .func f=>.val (.func (.func f) a b) h | _=>.bad "makeFunc"
abbrev XF:=Slots→Heap→Res
def Dg(x:Operand):XF:=fun T h=>.val (ev P T x) h
def Gp(c a b:Operand):XF:=fun T h=>zP (ev P T c) (ev P T a) (ev P T b) h
def xE(e:Nat):XF:=fun _ h=>iM P e h
def Gq(e:Nat)(v:Operand):XF:=fun T h=>vb e (ev P T v) h
def BO(t:Nat)(ps:Array (Nat × Operand)):XF:=fun T h=>ph P t (j5 P T ps.toList) h
def jK(t n:Nat)(ps:Array (Nat × Operand)):XF:=fun T h=>cJ P t n (j5 P T ps.toList) h
def fx(t:Nat)(m k v:Operand):XF:=fun T h=>iO P t (ev P T m) (ev P T k) (ev P T v) h
def zR(t:Nat)(a:Operand):XF:=fun T h=>tX P t (ev P T a) h
def ma(t:Nat)(a v:Operand):XF:=fun T h=>xr P t (ev P T a) (ev P T v) h
def I4(x:Operand):XF:=fun T h=>EC (ev P T x) h
def isC(x:Operand):Bool:=match x with | .const _=>true | _=>false
def I5(op:BinOp)(t:Nat)(x y:Operand)(_:Nat):XF:=fun T h=>xq P op t (or (isC x) (isC y)) (ev P T x) (ev P T y) h
def cUn(op:UnOp)(_:Nat)(x:Operand):XF:=fun T h=>xUn P op (ev P T x) h
def ul(s d:Nat)(x:Operand):XF:=fun T h=>fw P s d (ev P T x) h
def nV(t:Nat):Bool:=match P.underlying t with | some (.interface _)=>false | some _=>true | none=>false
def BP(t:Nat)(x:Operand):XF:=fun T h=>cond (nV P t) (.val (.iface t (ev P T x)) h) (.bad "makeInterface")
def Gr(f:Fn)(a b:Array Operand):XF:=fun T h=>zQ f (evs P T a.toList) (evs P T b.toList) h
def mc(t:Nat)(x:Option AV):Bool:=match x with | none=>true | some (.int _ _)=>(match P.underlying t with | some (.map _ _)=>true | _=>false) | _=>false
def uo(t:Nat)(r:Option Operand):XF:=fun T h=>cond (mc P t (l8 P T r)) (h.alloc (.map [] 0) (fun b h=>.val (.map b) h)) (.bad "makeMap")
def me(t:Nat)(l c:Operand):XF:=fun T h=>dr P t (ev P T l) (ev P T c) h
def BQ(t:Nat)(x:Operand)(lo hi mx:Option Operand):XF:=fun T h=>m8 P t (ev P T x) (l8 P T lo) (l8 P T hi) (l8 P T mx) h
def fy(s:Nat)(x:Operand)(f:Nat):XF:=fun T h=>ei P s f (ev P T x) h
def BS(s:Nat)(x:Operand)(f:Nat):XF:=fun T h=>ua P s f (ev P T x) h
def em(t:Nat)(x i:Operand):XF:=fun T h=>cL P t (ev P T x) (ev P T i) h
def xF(t:Nat):Bool:=match P.underlying t with | some (.map _ _)=>true | _=>false
def g7(t:Nat)(v i:AV)(h:Heap):Res:=match v with
 | .str l c=>cond (jC P t) (ub P t (.str l c) i h) (.bad "index type")
 | v=>ub P t v i h
def xG(t:Nat)(v:AV)(h:Heap):Res:=match v with
 | .str l c=>cond (jC P t) (xA (.str l c) h) (.bad "range type")
 | .nilMap=>cond (xF P t) (xA .nilMap h) (.bad "range type")
 | .map b=>cond (xF P t) (xA (.map b) h) (.bad "range type")
 | _=>.bad "range"
def uq(t:Nat)(x i:Operand):XF:=fun T h=>g7 P t (ev P T x) (ev P T i) h
def xH(t:Nat)(x k:Operand)(c:Bool):XF:=fun T h=>iN P t (ev P T x) (ev P T k) c h
def BU(t:Nat)(x:Operand):XF:=fun T h=>xG P t (ev P T x) h
def Gs(x:Operand)(s:Bool):XF:=fun T h=>Gi (ev P T x) s h
def BV(x:Operand):XF:=fun T h=>BL (ev P T x) h
def xI(x:Operand)(_ t:Nat)(c:Bool):XF:=fun T h=>kV P (ev P T x) t c h
def nW(x:Operand)(i:Nat):XF:=fun T h=>gW (ev P T x) i h
def zS(c:Call):XF:=fun T h=>IJ P c T h
def Gt(c:Call):XF:=fun T h=>jH P c T h
def BW(x:Operand):XF:=fun T h=>Gk (ev P T x) h
def no1{α:Type}(_:α):XF:=fun _ _=>.bad "op"
def no2{α β:Type}(_:α)(_:β):XF:=fun _ _=>.bad "op"
def no3{α β γ:Type}(_:α)(_:β)(_:γ):XF:=fun _ _=>.bad "op"
def no4{α β γ δ:Type}(_:α)(_:β)(_:γ)(_:δ):XF:=fun _ _=>.bad "op"
def dT(o:Op):XF:=Op.casesOn (motive:=fun _=>XF) o
 (Dg P) (Dg P) (Gp P) (xE P) (Gq P) (BO P) (jK P) (fx P) (zR P) (ma P) no1 no1 (I4 P) (I5 P) (cUn P) (ul P) no2
 (BP P) (Gr P) (uo P) no2 (me P) (BQ P) (fy P) (BS P) (em P) (uq P) (xH P) (fx P) no3 no4
 (BU P) (Gs P) (BV P) (xI P) (nW P) (zS P) no1 (Gt P) (BW P) no2 no3 no2
structure Lift where
 xs:List Operand
 f:List AV→Heap→Res
 g:List AV→Heap→Option Res
def noG(_:List AV)(_:Heap):Option Res:=none
def ur(n:Int):Bool:=and (eH (-4611686018427387904) n) (eH n 4611686018427387904)
def qy(d:Int):Nat:=match d with
 | .ofNat n=>n
 | .negSucc _=>0
def xJ(k:IntKind)(b:Key)(off:Int)(lo hi:Nat)(h:Heap):Res:=cond (and (ur (Int.ofNat lo+off)) (ur (Int.ofNat hi+off))) (BI off fun o=>.val (.ofs k b o) h) (.bad "interval")
def nX(y n:Bool)(b:Key)(m lo hi:Nat)(h:Heap):Res:=
 cond (Nat.ble m lo) (.val (.bool n) h) (cond (Nat.ble hi m) (.val (.bool y) h) (ak m fun m=>.alts [(.bool y,h.put b (.ivl lo m)),(.bool n,h.put b (.ivl m hi))]))
def ws(n:Bool)(b:Key)(lo hi:Nat)(h:Heap)(r:List (AV × Heap)):List (AV × Heap):=cond (Nat.blt lo hi) ((.bool n,h.put b (.ivl lo hi))::r) r
def ut(y n:Bool)(b:Key)(d:Int)(lo hi:Nat)(h:Heap):Res:=match d with
 | .ofNat m=>cond (or (Nat.blt m lo) (Nat.ble hi m)) (.val (.bool n) h) (cond (Nat.ble hi (lo+1)) (.val (.bool y) h) (ak m fun m=>ak (m+1) fun m1=>.alts ((.bool y,h.put b (.ivl m m1))::ws n b lo m h (ws n b m1 hi h []))))
 | .negSucc _=>.val (.bool n) h
def mf(op:BinOp)(b:Key)(off c:Int)(lo hi:Nat)(h:Heap):Res:=match op with
 | .add=>xJ .i64 b (off+c) lo hi h
 | .sub=>xJ .i64 b (off - c) lo hi h
 | .lss=>nX true false b (qy (c - off)) lo hi h
 | .geq=>nX false true b (qy (c - off)) lo hi h
 | .leq=>nX true false b (qy (c - off+1)) lo hi h
 | .gtr=>nX false true b (qy (c - off+1)) lo hi h
 | .eql=>ut true false b (c - off) lo hi h
 | .neq=>ut false true b (c - off) lo hi h
 | _=>.bad "binOp ofs"
def Dh(op:BinOp)(k:IntKind)(m:Bool)(c:Nat)(s:Key)(k':IntKind)(b:Int)(h:Heap):Res:=match op with
 | .and=>cond (and (and m (Nat.beq (aj k) (aj k'))) (bO b (Int.ofNat c))) (.val (.ofs k s 0) h) (.bad "binOp reds")
 | .rem=>cond (and (and (not m) (not (Nat.beq c 0))) (and (Nat.beq (aj k) (aj .u64)) (and (Nat.beq (aj k') (aj .u64)) (bO b (Int.ofNat c))))) (.val (.ofs k s 0) h) (.bad "binOp reds")
 | _=>.bad "binOp reds"
def nY(op:BinOp)(a b:Nat)(h:Heap):Option Res:=match op with
 | .quo=>(match Ieee.double.div a b with | none=>some (.val .nan h) | some _=>none)
 | _=>none
def xK(op:BinOp)(h:Heap):Option Res:=match op with
 | .neq=>some (.val (.bool true) h)
 | .eql=>some (.val (.bool false) h)
 | _=>none
def nZ(y n:Bool)(lo hi m:Nat)(h:Heap):Option Res:=cond (Nat.ble hi m) (some (.val (.bool y) h)) (cond (Nat.ble m lo) (some (.val (.bool n) h)) none)
def BX(op:BinOp)(lo hi:Nat)(c:Int)(h:Heap):Option Res:=match op with
 | .lss=>nZ true false lo hi (qy c) h
 | .geq=>nZ false true lo hi (qy c) h
 | .leq=>nZ true false lo hi (qy (c+1)) h
 | .gtr=>nZ false true lo hi (qy (c+1)) h
 | _=>none
def cO(l:Nat):List AV→Bool
 | []=>true
 | v::r=>(match v with | .str m _=>cond (Nat.beq l m) (cO l r) false | _=>false)
def o5(op:BinOp)(l:Nat)(vs:List AV)(h:Heap):Option Res:=match vs with
 | .str m _::_=>cond (cO m vs) (some (tV op (l+m) h)) none
 | _=>none
def o6(op:BinOp)(l:Nat)(vs:List AV)(h:Heap):Option Res:=match vs with
 | .str m _::_=>cond (cO m vs) (some (tV op (m+l) h)) none
 | _=>none
def jL(op:BinOp)(vs:List AV)(h:Heap):Option Res:=match vs with
 | [.ofs k b off,.int k' c]=>(match h.get b with
  | some (.ivl lo hi)=>some (cond (and (Nat.beq (aj k) (aj .i64)) (Nat.beq (aj k') (aj .i64))) (mf op b off c lo hi h) (.bad "kind of ofs"))
  | _=>none)
 | [.int k' c,.ofs k b off]=>(match op,h.get b with
  | .add,some (.ivl lo hi)=>some (cond (and (Nat.beq (aj k) (aj .i64)) (Nat.beq (aj k') (aj .i64))) (xJ .i64 b (off+c) lo hi h) (.bad "kind of ofs"))
  | .lss,some (.ivl lo hi)=>some (cond (and (Nat.beq (aj k) (aj .i64)) (Nat.beq (aj k') (aj .i64))) (mf .gtr b off c lo hi h) (.bad "kind of ofs"))
  | .leq,some (.ivl lo hi)=>some (cond (and (Nat.beq (aj k) (aj .i64)) (Nat.beq (aj k') (aj .i64))) (mf .geq b off c lo hi h) (.bad "kind of ofs"))
  | .gtr,some (.ivl lo hi)=>some (cond (and (Nat.beq (aj k) (aj .i64)) (Nat.beq (aj k') (aj .i64))) (mf .lss b off c lo hi h) (.bad "kind of ofs"))
  | .geq,some (.ivl lo hi)=>some (cond (and (Nat.beq (aj k) (aj .i64)) (Nat.beq (aj k') (aj .i64))) (mf .leq b off c lo hi h) (.bad "kind of ofs"))
  | _,_=>none)
 | [.reds k m c s,.int k' b]=>(match h.get s with
  | some (.ivl _ _)=>some (Dh op k m c s k' b h)
  | _=>none)
 | [.float .f64 a,.float .f64 b]=>nY op a b h
 | [.nan,.nan]=>xK op h
 | [.rng lo hi,.int .i64 c]=>BX op lo hi c h
 | [.ustr l,.tab _ _ vs]=>o5 op l vs h
 | [.tab _ _ vs,.ustr l]=>o6 op l vs h
 | _=>none
def qn(src dst:Nat)(vs:List AV)(h:Heap):Option Res:=match vs with
 | [.ofs _ b off]=>(match P.underlying src,P.underlying dst with
  | some (.int _),some (.int .i64)=>(match h.get b with
   | some (.ivl lo hi)=>some (xJ .i64 b off lo hi h)
   | _=>none)
  | _,_=>none)
 | _=>none
def Gu(ts:List Nat)(vs:List AV)(h:Heap):Option Res:=match ts,vs with
 | t::_,[.sliceG _ b]=>(match P.underlying t,h.get b with
  | some (.slice _),some (.ivl _ _)=>some (.val (.ofs .i64 b 0) h)
  | _,_=>none)
 | t::_,[.map b]=>(match P.underlying t,h.get b with
  | some (.map _ _),some (.umap _ _ n)=>some (ak (n+1) fun n=>.val (.rng 0 n) h)
  | _,_=>none)
 | _,_=>none
def EE(l:Nat)(cok:Bool)(z:AV)(h:Heap):Res:=.alts [(cond cok (.tup [.ustr l,.bool true]) (.ustr l),h),(cond cok (.tup [z,.bool false]) z,h)]
def IK(m:Option (Int × AV))(l:Nat)(a:Int)(cok:Bool)(z:AV)(h:Heap):Res:=match m with
 | some p=>cond (bO a p.1) (.val (cond cok (.tup [p.2,.bool true]) p.2) h) (EE l cok z h)
 | none=>EE l cok z h
def zT(t:Nat)(cok:Bool)(vs:List AV)(h:Heap):Option Res:=match vs with
 | [.map b,.int .i64 a]=>(match P.underlying t,h.get b with
  | some (.map kt et),some (.umap m l _)=>(match bK P et with
   | some z=>cond (intT P kt) (some (IK m l a cok z h)) none
   | none=>none)
  | _,_=>none)
 | _=>none
def zU(t:Nat)(vs:List AV)(h:Heap):Option Res:=match vs with
 | [.ptr a off]=>(match h.get a with
  | some (.rowG v b)=>(match h.get b with
   | some (.ivl lo _)=>cond (and (Nat.blt off lo) (and (known P t) (not (bQ P t)))) (some (.val v h)) none
   | _=>none)
  | some (.bits _ n c)=>cond (and (Nat.blt off n) (and (known P t) (not (bQ P t)))) (some (boolV (cK c off) h)) none
  | _=>none)
 | _=>none
def Gv(t:Nat)(vs:List AV)(h:Heap):Res:=match vs with
 | [a]=>tX P t a h
 | _=>.bad "lift"
def Gw(t:Nat)(cok:Bool)(vs:List AV)(h:Heap):Res:=match vs with
 | [m,k]=>iN P t m k cok h
 | _=>.bad "lift"
def Gx(t:Nat)(vs:List AV)(h:Heap):Option Res:=match vs with
 | [.sliceG a b,.int .i64 (.ofNat n)]=>(match P.underlying t,h.get b with
  | some (.slice e),some (.ivl lo _)=>cond (and (Nat.blt n lo) (Nat.beq (aU P e) 1)) (some (.val (.ptr a n) h)) none
  | _,_=>none)
 | _=>none
def Gy(t:Nat)(vs:List AV)(h:Heap):Res:=match vs with
 | [a,i]=>cL P t a i h
 | _=>.bad "lift"
def Jq(op:BinOp)(t:Nat)(c:Bool)(vs:List AV)(h:Heap):Res:=match vs with
 | [a,b]=>xq P op t c a b h
 | _=>.bad "lift"
def lUn(op:UnOp)(vs:List AV)(h:Heap):Res:=match vs with
 | [a]=>xUn P op a h
 | _=>.bad "lift"
def wt(s d:Nat)(vs:List AV)(h:Heap):Res:=match vs with
 | [a]=>fw P s d a h
 | _=>.bad "lift"
def BZ(t:Nat)(vs:List AV)(h:Heap):Res:=match vs with
 | [a,i]=>g7 P t a i h
 | _=>.bad "lift"
def lSl(t:Nat)(lo hi:Bool)(vs:List AV)(h:Heap):Res:=match vs with
 | [a,l,u]=>m8 P t a (cond lo (some l) none) (cond hi (some u) none) none h
 | _=>.bad "lift"
def Gz(x:Option Operand):Operand:=match x with
 | some x=>x
 | none=>.const (.tuple #[])
def zV(t:Nat):Bool:=match P.underlying t with | some (.slice _)=>true | _=>false
def cm(o:Op):Option Lift:=match o with
 | .binOp op t x y _=>some ⟨[x,y],Jq P op t (or (isC x) (isC y)),jL op⟩
 | .unOp op _ x=>some ⟨[x],lUn P op,noG⟩
 | .convert s d x=>cond (zV P d) none (some ⟨[x],wt P s d,qn P s d⟩)
 | .index t x i=>some ⟨[x,i],BZ P t,noG⟩
 | .slice t x lo hi none=>some ⟨[x,Gz lo,Gz hi],lSl P t lo.isSome hi.isSome,noG⟩
 | .indexAddr t x i=>some ⟨[x,i],Gy P t,Gx P t⟩
 | .load t x=>some ⟨[x],Gv P t,zU P t⟩
 | .lookup t x k c=>some ⟨[x,k],Gw P t c,zT P t c⟩
 | .call { callee:=.builtin .len,args:=as,argTypes:=ts }=>some ⟨as.toList,fun vs h=>cN P .len ts.toList vs h,Gu P ts.toList⟩
 | .call { callee:=.builtin .min,args:=as,argTypes:=ts }=>some ⟨as.toList,fun vs h=>cN P .min ts.toList vs h,noG⟩
 | .call { callee:=.builtin .max,args:=as,argTypes:=ts }=>some ⟨as.toList,fun vs h=>cN P .max ts.toList vs h,noG⟩
 | _=>none
def Di(r:Res):Option AV:=match r with
 | .val v _=>cond v.plain (some v) none
 | _=>none
def dt(f:Nat→Option AV):List Nat→Option (List AV)
 | []=>some []
 | d::r=>(f d).bind fun v=>(dt f r).bind fun vs=>some (v::vs)
def kY(x y:AV):Bool:=match x,y with
 | .str l a,.str m b=>and (Nat.beq l m) (Nat.beq a b)
 | .int k a,.int k' b=>and (Nat.beq (aj k) (aj k')) (bO a b)
 | .bool a,.bool b=>not (Bool.xor a b)
 | _,_=>false
def iZ(v:AV):List AV→Bool
 | []=>true
 | x::r=>cond (kY x v) (iZ v r) false
def dN:List Nat→List AV→Option (List Nat × List Nat)
 | [],[]=>some ([],[])
 | d::ds,.bool true::vs=>(dN ds vs).bind fun p=>some (d::p.1,p.2)
 | d::ds,.bool false::vs=>(dN ds vs).bind fun p=>some (p.1,d::p.2)
 | _,_=>none
def g8(b:Key)(h:Heap)(p:Option (List Nat × List Nat)):Res:=match p with
 | some ([],_)=>.val (.bool false) h
 | some (_,[])=>.val (.bool true) h
 | some (t,f)=>.alts [(.bool true,h.put b (.dom t)),(.bool false,h.put b (.dom f))]
 | none=>.bad "lift bool"
def isB(v:AV):Bool:=match v with | .bool _=>true | _=>false
def zW(v t:AV)(r:List AV):AV:=match v with
 | .str l _=>cond (Nat.ble 256 l) (cond (cO l r) (.ustr l) t) t
 | _=>t
def kZ(b:Key)(ds:List Nat)(rs:List AV)(h:Heap):Res:=match rs with
 | []=>.bad "lift empty"
 | v::r=>cond (isB v) (g8 b h (dN ds (v::r))) (.val (cond (iZ v r) v (zW v (.tab b ds (v::r)) (v::r))) h)
def j3(g:List AV→Option AV)(b:Key)(vs:List AV)(ds:List Nat):Option (List AV):=match cI g b ds vs with
 | some rs=>some rs
 | none=>dt (fun d=>g (aT b d vs)) ds
def l0(f:List AV→Heap→Res)(b:Key)(vs:List AV)(h:Heap)(ds:List Nat)(w:String):Res:=match j3 (fun vs=>Di (f vs h)) b vs ds with
 | some rs=>kZ b ds rs h
 | none=>.bad w
def jM(f:List AV→Heap→Res)(vs:List AV)(h:Heap)(w:String):Res:=match jA vs with
 | some b=>l0 f b vs h (b9 (h.get b)) w
 | none=>.bad w
def orG(o:Option Res)(r:Res):Res:=match o with
 | some x=>x
 | none=>r
def IL(l:Lift)(vs:List AV)(h:Heap)(w:String):Res:=orG (l.g vs h) (jM l.f vs h w)
def gr(l:Lift)(T:Slots)(h:Heap)(r:Res):Res:=match r with
 | .bad w=>IL l (evs P T l.xs) h w
 | r=>r
def g9(l:Option Lift)(T:Slots)(h:Heap)(r:Res):Res:=match l with
 | some l=>gr P l T h r
 | none=>r
def gX(o:Op):XF:=fun T h=>g9 P (cm P o) T h (dT P o T h)

end
end Go.VM
end
namespace Go.VM
section
variable {α:Type}
theorem aF(d:D8)(f:α→α)(x:N8 α):(sel d).f ((upd d).f f x)=f ((sel d).f x):=by cases x;cases d<;>rfl
theorem bh{d d':D8}(h:d≠d')(f:α→α)(x:N8 α):(sel d').f ((upd d).f f x)=(sel d').f x:=by
 cases x;cases d<;>cases d'<;>first | rfl | exact absurd rfl h
theorem dd(d:D8)(x:α):(sel d).f (jx x)=x:=by cases d<;>rfl
theorem RT.get_nil(k:Key):(RT.nil:RT α).get k=none:=by
 obtain⟨a,b,c,d,e⟩:=k
 show (sel a).f ((sel b).f ((sel c).f ((sel d).f ((sel e).f RT.e5))))=none
 rw [show (RT.e5:RT5 α)=jx RT.e4 from rfl,dd,show (RT.e4:N8 (N8 (N8 (N8 (Option α)))))=jx RT.e3 from rfl,dd,show (RT.e3:N8 (N8 (N8 (Option α))))=jx RT.e2 from rfl,dd,show (RT.e2:N8 (N8 (Option α)))=jx RT.e1 from rfl,dd,show (RT.e1:N8 (Option α))=jx none from rfl,dd]
theorem RT.get_setO_same(x:Option α)(k:Key)(t:RT α):(RT.setO x k t).get k=x:=by
 obtain⟨a,b,c,d,e⟩:=k
 show (sel a).f ((sel b).f ((sel c).f ((sel d).f ((sel e).f ((upd e).f _ t.t)))))=x
 rw [aF,aF,aF,aF,aF];rfl
theorem RT.get_setO_other(x:Option α)(k k':Key)(t:RT α)(h:k≠k'):(RT.setO x k t).get k'=t.get k':=by
 obtain⟨a,b,c,d,e⟩:=k
 obtain⟨a',b',c',d',e'⟩:=k'
 show (sel a').f ((sel b').f ((sel c').f ((sel d').f ((sel e').f ((upd e).f _ t.t)))))=(sel a').f ((sel b').f ((sel c').f ((sel d').f ((sel e').f t.t))))
 by_cases he:e=e'
 ·subst he
  rw [aF]
  by_cases hd:d=d'
  ·subst hd
   rw [aF]
   by_cases hc:c=c'
   ·subst hc
    rw [aF]
    by_cases hb:b=b'
    ·subst hb
     rw [aF]
     by_cases ha:a=a'
     ·subst ha;exact absurd rfl h
     ·rw [bh ha]
    ·rw [bh hb]
   ·rw [bh hc]
  ·rw [bh hd]
 ·rw [bh he]
theorem RT.get_set_same(x:α)(k:Key)(t:RT α):(RT.set x k t).get k=some x:=RT.get_setO_same _ k t
theorem RT.get_set_other(x:α)(k k':Key)(t:RT α)(h:k≠k'):(RT.set x k t).get k'=t.get k':=RT.get_setO_other _ k k' t h
end
theorem ST.get_nil(k:SKey):ST.nil.get k=.junk:=by
 cases k with
 | s a b=>show (sel a).f ((sel b).f (jx ST.e1))=_;rw [dd];exact dd a _
 | m a b c=>show (sel a).f ((sel b).f ((sel c).f (jx ST.e2)))=_;rw [dd,show ST.e2=jx ST.e1 from rfl,dd];exact dd a _
 | h n=>rfl
theorem ST.get_set_same(v:AV)(k:SKey)(t:ST):(ST.set v k t).get k=v:=by
 cases t;cases k with
 | s a b=>show (sel a).f ((sel b).f ((upd b).f _ _))=v;rw [aF,aF];rfl
 | m a b c=>show (sel a).f ((sel b).f ((sel c).f ((upd c).f _ _)))=v;rw [aF,aF,aF];rfl
 | h n=>show cond (Nat.beq n n) v _=v;rw [Nat.beq_refl];rfl
theorem ST.get_set_other(v:AV)(k k':SKey)(t:ST)(h:k≠k'):(ST.set v k t).get k'=t.get k':=by
 cases t;cases k with
 | s a b=>cases k' with
  | s a' b'=>
   show (sel a').f ((sel b').f ((upd b).f _ _))=(sel a').f ((sel b').f _)
   by_cases hb:b=b'
   ·subst hb
    rw [aF]
    by_cases ha:a=a'
    ·subst ha;exact absurd rfl h
    ·rw [bh ha]
   ·rw [bh hb]
  | m a' b' c'=>rfl
  | h n'=>rfl
 | m a b c=>cases k' with
  | s a' b'=>rfl
  | m a' b' c'=>
   show (sel a').f ((sel b').f ((sel c').f ((upd c).f _ _)))=(sel a').f ((sel b').f ((sel c').f _))
   by_cases hc:c=c'
   ·subst hc
    rw [aF]
    by_cases hb:b=b'
    ·subst hb
     rw [aF]
     by_cases ha:a=a'
     ·subst ha;exact absurd rfl h
     ·rw [bh ha]
    ·rw [bh hb]
   ·rw [bh hc]
  | h n'=>rfl
 | h n=>cases k' with
  | s a' b'=>rfl
  | m a' b' c'=>rfl
  | h n'=>
   show cond (Nat.beq n n') v _=_
   have hn:Nat.beq n n'=false:=by
    cases hb:Nat.beq n n' with
    | false=>rfl
    | true=>exact absurd (congrArg SKey.h (Nat.eq_of_beq_eq_true hb)) h
   rw [hn];rfl
theorem D8.num_ofNat(a:Nat)(h:a < 8):(D8.ofNat a).num=a:=by
 match a,h with
 | 0,_ | 1,_ | 2,_ | 3,_ | 4,_ | 5,_ | 6,_ | 7,_=>rfl
theorem D8.ofNat_inj(a b:Nat)(ha:a < 8)(hb:b < 8)(h:D8.ofNat a=D8.ofNat b):a=b:=by
 rw [←D8.num_ofNat a ha,←D8.num_ofNat b hb,h]
theorem DH{a b:Nat}(h:keyOf a=keyOf b):a=b:=by
 unfold keyOf at h
 cases h1:Nat.blt a 64<;>cases h2:Nat.blt b 64<;>cases h3:Nat.blt a 512<;>cases h4:Nat.blt b 512<;>simp only [h1,h2,h3,h4,cond_true,cond_false] at h<;>(try cases h;done)<;>
  simp only [Nat.blt_eq,←Bool.not_eq_true] at h1 h2 h3 h4
 all_goals first
  | (injection h with e0 e1 e2
     have e0:=D8.ofNat_inj _ _ (by omega) (by omega) e0
     have e1:=D8.ofNat_inj _ _ (by omega) (by omega) e1
     have e2:=D8.ofNat_inj _ _ (by omega) (by omega) e2
     omega)
  | (injection h with e0 e1
     have e0:=D8.ofNat_inj _ _ (by omega) (by omega) e0
     have e1:=D8.ofNat_inj _ _ (by omega) (by omega) e1
     omega)
  | (injection h)
theorem DI(x y:D8)(r:Bool):tP x y r=true ↔ x=y∧r=true:=by
 have hn:Nat.beq x.num y.num=true ↔ x=y:=by cases x<;>cases y<;>simp [D8.num]
 unfold tP
 cases hb:Nat.beq x.num y.num with
 | true=>simp [hn.1 hb]
 | false=>simp;intro he;rw [hn.2 he] at hb;cases hb
theorem Key.same_iff(x y:Key):Key.same x y=true ↔ x=y:=by
 obtain⟨a,b,c,d,e⟩:=x
 obtain⟨a',b',c',d',e'⟩:=y
 simp only [Key.same,DI,Key.mk.injEq,and_true]
end Go.VM
namespace Go.VM
structure Loc where
 B:Nat
 base:Nat
 total:Nat
abbrev Rho:=Key→Option Loc
def ac:Nat→Nat→List UInt8
 | 0,_=>[]
 | n+1,c=>UInt8.ofNat c::ac n (c / 256)
def strOf(l c:Nat):ByteArray:=⟨⟨ac l c⟩⟩
def j6(k:IntKind)(m:Bool)(c j:Nat)(n:Int):Prop:=match m with
 | true=>bits .and k n (Int.ofNat c)=Int.ofNat j
 | false=>(IntKind.u64.wrap n).tmod (Int.ofNat c)=Int.ofNat j∧(k=.u64→IntKind.u64.wrap n=n)
mutual
inductive Rel (ρ:Rho):AV→Value→Prop where
 | bool (b:Bool):Rel ρ (.bool b) (.bool b)
 | int (k:IntKind) (n:Int):Rel ρ (.int k n) (.int k n)
 | float (k:FloatKind) (b:Nat):Rel ρ (.float k b) (.float k b)
 | str (l c:Nat) (h:c < 256 ^ l):Rel ρ (.str l c) (.string (strOf l c))
 | nilPtr:Rel ρ .nilPtr (.pointer none)
 | ptr (b:Key) (off:Nat) (L:Loc) (h:ρ b=some L):Rel ρ (.ptr b off) (.pointer (some ⟨L.B,L.base+off,none⟩))
 | nilSlice:Rel ρ .nilSlice (.slice none 0 0)
 | emptyS (a:Addr) (c:Nat):Rel ρ .emptyS (.slice (some a) 0 c)
 | sliceIs (b:Key) (off len c:Nat) (L:Loc) (h:ρ b=some L):Rel ρ (.slice b off len (.is c)) (.slice (some ⟨L.B,L.base+off,none⟩) len c)
 | sliceMore (b:Key) (off len c sz:Nat) (L:Loc) (h:ρ b=some L) (hc:len≤c) (ht:L.base+off+c * sz=L.total):
   Rel ρ (.slice b off len (.more sz)) (.slice (some ⟨L.B,L.base+off,none⟩) len c)
 | nilMap:Rel ρ .nilMap (.map none)
 | map (b:Key) (L:Loc) (h:ρ b=some L):Rel ρ (.map b) (.map (some L.B))
 | func (f:Nat) (a b:List AV) (A B:List Value) (ha:RelL ρ a A) (hb:RelL ρ b B):Rel ρ (.func (.func f) a b) (.func (.func f) ⟨A⟩ ⟨B⟩)
 | yield (l:Key) (L:Loc) (h:ρ l=some L):Rel ρ (.func (.yield l) [] []) (.func (.yield L.B) #[] #[])
 | nilFunc:Rel ρ .nilFunc .nilFunc
 | iface (t:Nat) (v:AV) (V:Value) (h:Rel ρ v V):Rel ρ (.iface t v) (.iface t V)
 | nilIface:Rel ρ .nilIface .nilIface
 | agg (a:List AV) (A:List Value) (h:RelL ρ a A):Rel ρ (.agg a) (.agg ⟨A⟩)
 | tup (a:List AV) (A:List Value) (h:RelL ρ a A):Rel ρ (.tup a) (.tuple ⟨A⟩)
 | undef:Rel ρ .undef (.tuple #[])
 | junk (V:Value):Rel ρ .junk V
 | red (k:IntKind) (m:Bool) (c j:Nat) (n:Int) (h:j6 k m c j n):Rel ρ (.red k m c j) (.int k n)
 | reds (k:IntKind) (m:Bool) (c:Nat) (b:Key) (L:Loc) (n:Int) (hb:ρ b=some L) (h:j6 k m c L.base n):Rel ρ (.reds k m c b) (.int k n)
 | tab (b:Key) (ds:List Nat) (vs:List AV) (L:Loc) (V:Value) (hb:ρ b=some L) (hp:(aQ L.base ds vs).plain=true) (h:Rel ρ (aQ L.base ds vs) V):Rel ρ (.tab b ds vs) V
 | ustr (l:Nat) (s:ByteArray) (h:s.size=l):Rel ρ (.ustr l) (.string s)
 | ofs (k:IntKind) (b:Key) (off:Int) (L:Loc) (n:Int) (hb:ρ b=some L) (h:n=Int.ofNat L.base+off):Rel ρ (.ofs k b off) (.int k n)
 | sliceG (a b:Key) (L M:Loc) (c:Nat) (ha:ρ a=some L) (hb:ρ b=some M):Rel ρ (.sliceG a b) (.slice (some ⟨L.B,L.base,none⟩) M.base c)
 | nan (b:Nat) (h:(Ieee.double.read b).isNaN=true):Rel ρ .nan (.float .f64 b)
 | rng (lo hi n:Nat) (h1:lo≤n) (h2:n < hi):Rel ρ (.rng lo hi) (.int .i64 (Int.ofNat n))
 | byte (b:UInt8):Rel ρ .byte (.int .u8 (b.toNat:Int))
inductive RelL (ρ:Rho):List AV→List Value→Prop where
 | nil:RelL ρ [] []
 | cons (v:AV) (V:Value) (r:List AV) (R:List Value) (h:Rel ρ v V) (hr:RelL ρ r R):RelL ρ (v::r) (V::R)
end
theorem jX{ρ:Rho}{v:AV}{V:Value}(hp:v.plain=true)(hr:Rel ρ v V):(∃ l c,c < 256 ^ l∧v=.str l c∧V=.string (strOf l c))∨(∃ k n,v=.int k n∧V=.int k n)∨(∃ b,v=.bool b∧V=.bool b):=by
 cases hr with
 | str l c h=>exact .inl ⟨l,c,h,rfl,rfl⟩
 | int k n=>exact .inr (.inl ⟨k,n,rfl,rfl⟩)
 | bool b=>exact .inr (.inr ⟨b,rfl,rfl⟩)
 | _=>cases hp
def Sub(ρ ρ':Rho):Prop:=∀ b L,ρ b=some L→ρ' b=some L
theorem Sub.refl(ρ:Rho):Sub ρ ρ:=fun _ _ h=>h
theorem Sub.trans{a b c:Rho}(h:Sub a b)(h':Sub b c):Sub a c:=fun k L e=>h' k L (h k L e)
mutual
theorem Rel.mono{ρ ρ':Rho}(s:Sub ρ ρ'):∀ {v:AV} {V:Value},Rel ρ v V→Rel ρ' v V
 | _,_,.bool b=>.bool b
 | _,_,.int k n=>.int k n
 | _,_,.float k b=>.float k b
 | _,_,.str l c h=>.str l c h
 | _,_,.nilPtr=>.nilPtr
 | _,_,.ptr b off L h=>.ptr b off L (s _ _ h)
 | _,_,.nilSlice=>.nilSlice
 | _,_,.emptyS a c=>.emptyS a c
 | _,_,.sliceIs b off len c L h=>.sliceIs b off len c L (s _ _ h)
 | _,_,.sliceMore b off len c sz L h hc ht=>.sliceMore b off len c sz L (s _ _ h) hc ht
 | _,_,.nilMap=>.nilMap
 | _,_,.map b L h=>.map b L (s _ _ h)
 | _,_,.func f a b A B ha hb=>.func f a b A B (RelL.mono s ha) (RelL.mono s hb)
 | _,_,.yield l L h=>.yield l L (s _ _ h)
 | _,_,.nilFunc=>.nilFunc
 | _,_,.iface t v V h=>.iface t v V (Rel.mono s h)
 | _,_,.nilIface=>.nilIface
 | _,_,.agg a A h=>.agg a A (RelL.mono s h)
 | _,_,.tup a A h=>.tup a A (RelL.mono s h)
 | _,_,.undef=>.undef
 | _,_,.junk V=>.junk V
 | _,_,.red k m c j n h=>.red k m c j n h
 | _,_,.reds k m c b L n hb h=>.reds k m c b L n (s _ _ hb) h
 | _,_,.tab b ds vs L V hb hp h=>.tab b ds vs L V (s _ _ hb) hp (Rel.mono s h)
 | _,_,.ustr l x h=>.ustr l x h
 | _,_,.ofs k b off L n hb h=>.ofs k b off L n (s _ _ hb) h
 | _,_,.sliceG a b L M c ha hb=>.sliceG a b L M c (s _ _ ha) (s _ _ hb)
 | _,_,.nan b h=>.nan b h
 | _,_,.rng lo hi n h1 h2=>.rng lo hi n h1 h2
 | _,_,.byte b=>.byte b
theorem RelL.mono{ρ ρ':Rho}(s:Sub ρ ρ'):∀ {v:List AV} {V:List Value},RelL ρ v V→RelL ρ' v V
 | _,_,.nil=>.nil
 | _,_,.cons v V r R h hr=>.cons v V r R (Rel.mono s h) (RelL.mono s hr)
end
section lists
variable {ρ:Rho}
theorem RelL.length:∀ {a:List AV} {A:List Value},RelL ρ a A→A.length=a.length
 | _,_,.nil=>rfl
 | _,_,.cons _ _ _ _ _ hr=>by simp [RelL.length hr]
theorem RelL.append:∀ {a b:List AV} {A B:List Value},RelL ρ a A→RelL ρ b B→RelL ρ (a++b) (A++B)
 | _,_,_,_,.nil,h=>h
 | _,_,_,_,.cons v V _ _ hv hr,h=>.cons v V _ _ hv (RelL.append hr h)
theorem RelL.drop:∀ (n:Nat) {a:List AV} {A:List Value},RelL ρ a A→RelL ρ (a.drop n) (A.drop n)
 | 0,_,_,h=>h
 | _+1,_,_,.nil=>by simpa using RelL.nil
 | n+1,_,_,.cons _ _ _ _ _ hr=>by simpa using RelL.drop n hr
theorem RelL.take:∀ (n:Nat) {a:List AV} {A:List Value},RelL ρ a A→RelL ρ (a.take n) (A.take n)
 | 0,_,_,_=>by simpa using RelL.nil
 | _+1,_,_,.nil=>by simpa using RelL.nil
 | n+1,_,_,.cons v V _ _ hv hr=>by simpa using RelL.cons v V _ _ hv (RelL.take n hr)
theorem RelL.get?:∀ (n:Nat) {a:List AV} {A:List Value} {v:AV},RelL ρ a A→a[n]?=some v→∃ V,A[n]?=some V∧Rel ρ v V
 | _,_,_,_,.nil,h=>by simp at h
 | 0,_,_,_,.cons v V _ _ hv _,h=>by simp at h;subst h;exact⟨V,by simp,hv⟩
 | n+1,_,_,_,.cons _ _ _ _ _ hr,h=>by simp at h;obtain⟨V,e,r⟩:=RelL.get? n hr h;exact⟨V,by simpa using e,r⟩
end lists
-- the ur list functions are the library's
theorem bU{α:Type}:∀ (n:Nat) (l:List α),take n l=l.take n
 | 0,l=>by simp [take]
 | n+1,[]=>by simp [take]
 | n+1,x::r=>by simp [take,bU n r]
theorem bB{α:Type}:∀ (n:Nat) (l:List α),drop n l=l.drop n
 | 0,l=>rfl
 | n+1,[]=>rfl
 | n+1,x::r=>by show drop n r=_;rw [bB n r];rfl
theorem vl{α:Type}(l:List α):hd l=l.head?:=by cases l<;>rfl
theorem aG{α:Type}:∀ l:List α,len l=l.length
 | []=>rfl
 | _::r=>by simp [len,aG r]
theorem aL{α:Type}:∀ a b:List α,cat a b=a++b
 | [],_=>rfl
 | x::r,b=>by simp [cat,aL r b]
theorem af{α:Type}(n:Nat)(k:Nat→α):ak n k=k n:=by cases n<;>rfl
theorem jY{α:Type}(n:Int)(k:Int→α):BI n k=k n:=by
 cases n with
 | ofNat a=>show ak a (fun a=>k (Int.ofNat a))=_;rw [af]
 | negSucc a=>show ak a (fun a=>k (Int.negSucc a))=_;rw [af]
end Go.VM
namespace Go.VM
def AObj.live:AObj→Bool
 | .dead=>false
 | .dom _=>false
 | .ivl _ _=>false
 | _=>true
def CellsRel(ρ:Rho)(cs:List AV)(C:Array Value)(base:Nat):Prop:=base+cs.length≤C.size∧RelL ρ cs ((C.toList.drop base).take cs.length)
def Cu(fz:Nat)(q:Nat × Nat)(L:Loc):Prop:=∀ j,q.1≤j→j < q.2→j < L.base+fz∨L.total≤j
inductive ERel (ρ:Rho):List (AV × AV × Nat)→List MapEntry→Prop where
 | nil:ERel ρ [] []
 | cons (k v:AV) (K V:Value) (c:Nat) (r:List (AV × AV × Nat)) (R:List MapEntry) (hk:Rel ρ k K) (hv:Rel ρ v V) (hr:ERel ρ r R):
   ERel ρ ((k,v,c)::r) ({ key:=K,val:=V,born:=c }::R)
inductive DRel (ρ:Rho):ADef→Deferred→Prop where
 | fn (f:Nat) (c a:List AV) (C A:List Value) (hc:RelL ρ c C) (ha:RelL ρ a A):DRel ρ ⟨.func f,c,a⟩ { target:=.fn (.func f) ⟨C⟩,args:=⟨A⟩ }
 | mark (b:Key) (L:Loc) (h:ρ b=some L):DRel ρ ⟨.yield b,[],[]⟩ { target:=.collected L.B,args:=#[] }
inductive DsRel (ρ:Rho):List ADef→List Deferred→Prop where
 | nil:DsRel ρ [] []
 | cons (d:ADef) (D:Deferred) (r:List ADef) (R:List Deferred) (h:DRel ρ d D) (hr:DsRel ρ r R):DsRel ρ (d::r) (D::R)
structure TRel (ρ:Rho) (T:Slots) (t:Array Value):Prop where
 n:t.size=T.n
 at_:∀ i,Rel ρ (T.get i) (t.getD i Go.undef)
def LRel(ρ:Rho)(es:List (AV × AV))(E:List MapEntry):Prop:=∃ es':List (AV × AV × Nat),(es'.map fun e=>(e.1,e.2.1)).Perm es∧ERel ρ es' E
def Stamp(E:List MapEntry)(clock:Nat):Prop:=(∀ e ∈ E,e.born < clock)∧(E.map (·.born)).Nodup
def Agree(k:Nat)(ρ:Rho)(t' t:RT Nat)(ov:List (Nat × AV)):Prop:=∀ i,i < k→(jD i ov=none→bW t' i=bW t i)∧∀ v,jD i ov=some v→Rel ρ v (.string (strOf 256 (bW t' i)))
def yC(m:Option (Int × AV))(l:Nat)(a:Int):AV:=match m with
 | some p=>if a=p.1 then p.2 else .ustr l
 | none=>.ustr l
def URel(ρ:Rho)(m:Option (Int × AV))(l:Nat)(E:List MapEntry):Prop:=∃ ks:List (Int × Nat),(ks.map (·.1)).Nodup∧(∀ p,m=some p→p.1 ∈ ks.map (·.1))∧ERel ρ (ks.map fun p=>(.int .i64 p.1,yC m l p.1,p.2)) E
inductive KsRel (ρ:Rho):List (AV × AV × Key)→List (AV × AV × Nat)→Prop where
 | nil:KsRel ρ [] []
 | cons (k v:AV) (b:Key) (L:Loc) (r:List (AV × AV × Key)) (R:List (AV × AV × Nat)) (h:ρ b=some L) (hr:KsRel ρ r R):KsRel ρ ((k,v,b)::r) ((k,v,L.base)::R)
inductive AgeRel (ρ:Rho):List Key→List Nat→Prop where
 | nil:AgeRel ρ [] []
 | cons (b:Key) (L:Loc) (r:List Key) (R:List Nat) (h:ρ b=some L) (hr:AgeRel ρ r R):AgeRel ρ (b::r) (L.base::R)
def ObjRel(N:Nat→Prop)(ρ:Rho)(L:Loc)(O:Option Obj):AObj→Prop
 | .cells e cs opn fz=>¬ N L.B∧∃ C q,O=some (.cells C e q)∧C.size=L.total∧Cu fz q L∧CellsRel ρ cs C L.base∧(opn=false→L.base=0∧L.total=cs.length)∧(fz=0→opn=false→q=(0,0))
 | .fixed _ cs=>∃ C q,(∃ e,O=some (.cells C e q))∧C.size=L.total∧CellsRel ρ cs C L.base
 | .dead=>True
 | .map es clock=>¬ N L.B∧∃ E,O=some (.map E clock)∧ERel ρ es E.toList
 | .siter l c p=>¬ N L.B∧L.base=0∧c < 256 ^ l∧O=some (.stringIter (strOf l c) p)
 | .miter m since seen st=>¬ N L.B∧L.base=0∧∃ M,O=some (.mapIter M since ⟨seen⟩ st)∧(match m with | none=>M=none | some b=>∃ Lm,ρ b=some Lm∧M=some Lm.B)
 | .loop st p f tm ps a b d=>¬ N L.B∧∃ t Ld,ρ d=some Ld∧TRel ρ tm t∧O=some (.loop { state:=st,pending:=p,fn:=f,tmps:=t,params:=⟨ps⟩,assign:=a,body:=b,defers:=Ld.B })
 | .deferred ds=>¬ N L.B∧∃ D,DsRel ρ ds D∧O=some (.deferred (some D))
 | .dom ds=>L.base ∈ ds
 | .pack e k t=>¬ N L.B∧∃ C q,O=some (.cells C e q)∧C.size=L.total∧Cu 0 q L∧CellsRel ρ (ag t k) C L.base∧(false=false→L.base=0∧L.total=(ag t k).length)∧(0=0→false=false→q=(0,0))
 | .lmap es=>¬ N L.B∧∃ E clock,O=some (.map E clock)∧LRel ρ es E.toList∧Stamp E.toList clock
 | .mapAlt vs=>¬ N L.B∧∃ v,v ∈ vs∧∃ E,O=some (.map E v.2)∧ERel ρ v.1 E.toList
 | .packo e k t ov=>∃ t',Agree k ρ t' t ov∧¬ N L.B∧∃ C q,O=some (.cells C e q)∧C.size=L.total∧Cu 0 q L∧CellsRel ρ (ag t' k) C L.base∧(false=false→L.base=0∧L.total=(ag t' k).length)∧(0=0→false=false→q=(0,0))
 | .ivl lo hi=>lo≤L.base∧L.base < hi
 | .bits e n c=>¬ N L.B∧∃ C q,O=some (.cells C e q)∧C.size=L.total∧Cu 0 q L∧CellsRel ρ (bG n c) C L.base∧(false=false→L.base=0∧L.total=(bG n c).length)∧(0=0→false=false→q=(0,0))
 | .smap es ck=>¬ N L.B∧∃ E Lc,ρ ck=some Lc∧O=some (.map E Lc.base)∧(∃ es' es'',KsRel ρ es es''∧es'.Perm es''∧ERel ρ es' E.toList)∧Stamp E.toList Lc.base
 | .smiter m all seen sk=>¬ N L.B∧L.base=0∧∃ Lm since Ls sn,ρ m=some Lm∧ρ sk=some Ls∧O=some (.mapIter (some Lm.B) since ⟨sn⟩ Ls.base)∧AgeRel ρ seen sn∧∀ b ∈ all,∃ Lb,ρ b=some Lb∧Lb.base < since∧Lb.base < Ls.base
 | .rowG v b=>∃ C q e Lb,O=some (.cells C e q)∧C.size=L.total∧ρ b=some Lb∧∀ i,i < Lb.base→∃ V,C[L.base+i]?=some V∧Rel ρ v V
 | .umap m l n=>¬ N L.B∧∃ E clock,O=some (.map E clock)∧E.size≤n∧URel ρ m l E.toList
 | .bytes e n=>¬ N L.B∧L.base=0∧L.total=n∧∃ zs:List UInt8,zs.length=n∧O=some (.cells ⟨zs.map fun b=>.int .u8 (b.toNat:Int)⟩ e (0,0))
structure Base where
 w:World
 F:Nat→Prop
 lt:∀ k,F k→k < w.heap.size
 rho:Rho
def Base.at(w:World)(ρ0:Rho):Base:=⟨w,fun k=>k < w.heap.size,fun _ h=>h,ρ0⟩
def Base.std(w:World):Base:=Base.at w fun _=>none
structure Sim (w0:Base) (ρ:Rho) (h:Heap) (w:World):Prop where
 os:w.os=w0.w.os
 out:w.output=w0.w.output
 size:w0.w.heap.size≤w.heap.size
 old:∀ k,w0.F k→w.heap[k]?=w0.w.heap[k]?
 sub:Sub w0.rho ρ
 obj:∀ b L,ρ b=some L→∃ o,h.get b=some o∧L.B < w.heap.size∧ObjRel w0.F ρ L w.heap[L.B]? o
 inj:∀ b b' L L' o o',ρ b=some L→ρ b'=some L'→h.get b=some o→h.get b'=some o'→o.live=true→o'.live=true→L.B=L'.B→b=b'
theorem Heap.get_put_same(h:Heap)(b:Key)(o:AObj):(h.put b o).get b=some o:=by cases h;exact RT.get_set_same o b _
theorem Heap.get_put_other(h:Heap)(b b':Key)(o:AObj)(hne:b≠b'):(h.put b o).get b'=h.get b':=by cases h;exact RT.get_set_other o b b' _ hne
section mono
variable {ρ ρ':Rho} (s:Sub ρ ρ')
include s
theorem CellsRel.mono{cs:List AV}{C:Array Value}{b:Nat}(h:CellsRel ρ cs C b):CellsRel ρ' cs C b:=⟨h.1,h.2.mono s⟩
theorem ERel.mono:∀ {a:List (AV × AV × Nat)} {A:List MapEntry},ERel ρ a A→ERel ρ' a A
 | _,_,.nil=>.nil
 | _,_,.cons k v K V c r R hk hv hr=>.cons k v K V c r R (hk.mono s) (hv.mono s) (ERel.mono hr)
theorem LRel.mono{a:List (AV × AV)}{A:List MapEntry}(h:LRel ρ a A):LRel ρ' a A:=let ⟨es,hp,he⟩:=h;⟨es,hp,he.mono s⟩
theorem URel.mono{m:Option (Int × AV)}{l:Nat}{E:List MapEntry}(h:URel ρ m l E):URel ρ' m l E:=let ⟨ks,hn,hm,he⟩:=h;⟨ks,hn,hm,he.mono s⟩
theorem KsRel.mono:∀ {a:List (AV × AV × Key)} {A:List (AV × AV × Nat)},KsRel ρ a A→KsRel ρ' a A
 | _,_,.nil=>.nil
 | _,_,.cons k v b L r R h hr=>.cons k v b L r R (s _ _ h) (KsRel.mono hr)
theorem AgeRel.mono:∀ {a:List Key} {A:List Nat},AgeRel ρ a A→AgeRel ρ' a A
 | _,_,.nil=>.nil
 | _,_,.cons b L r R h hr=>.cons b L r R (s _ _ h) (AgeRel.mono hr)
theorem DRel.mono:∀ {a:ADef} {A:Deferred},DRel ρ a A→DRel ρ' a A
 | _,_,.fn f c a C A hc ha=>.fn f c a C A (hc.mono s) (ha.mono s)
 | _,_,.mark b L h=>.mark b L (s _ _ h)
theorem DsRel.mono:∀ {a:List ADef} {A:List Deferred},DsRel ρ a A→DsRel ρ' a A
 | _,_,.nil=>.nil
 | _,_,.cons d D r R h hr=>.cons d D r R (DRel.mono s h) (DsRel.mono hr)
theorem TRel.mono{T:Slots}{t:Array Value}(h:TRel ρ T t):TRel ρ' T t:=⟨h.n,fun i=>(h.at_ i).mono s⟩
theorem Agree.mono{k:Nat}{t' t:RT Nat}{ov:List (Nat × AV)}(h:Agree k ρ t' t ov):Agree k ρ' t' t ov:=fun i hi=>⟨(h i hi).1,fun v e=>((h i hi).2 v e).mono s⟩
theorem ObjRel.mono{N:Nat→Prop}{L:Loc}{O:Option Obj}:∀ {o:AObj},ObjRel N ρ L O o→ObjRel N ρ' L O o
 | .cells _ _ _ _,⟨a,C,q,e,f,g,h,i,j⟩=>⟨a,C,q,e,f,g,h.mono s,i,j⟩
 | .fixed _ _,⟨C,q,e,f,g⟩=>⟨C,q,e,f,g.mono s⟩
 | .dead,_=>trivial
 | .map _ _,⟨a,E,e,h⟩=>⟨a,E,e,h.mono s⟩
 | .siter _ _ _,h=>h
 | .miter m _ _ _,⟨a,b,M,e,h⟩=>⟨a,b,M,e,by
   cases m with
   | none=>exact h
   | some k=>obtain⟨Lm,h1,h2⟩:=h;exact⟨Lm,s _ _ h1,h2⟩⟩
 | .loop _ _ _ _ _ _ _ _,⟨a,t,Ld,h1,h2,h3⟩=>⟨a,t,Ld,s _ _ h1,h2.mono s,h3⟩
 | .deferred _,⟨a,D,h,e⟩=>⟨a,D,h.mono s,e⟩
 | .dom _,h=>h
 | .pack _ _ _,⟨a,C,q,e,f,g,h,i,j⟩=>⟨a,C,q,e,f,g,h.mono s,i,j⟩
 | .lmap _,⟨a,E,c,e,h,i⟩=>⟨a,E,c,e,h.mono s,i⟩
 | .mapAlt _,⟨a,v,hv,E,e,h⟩=>⟨a,v,hv,E,e,h.mono s⟩
 | .bytes _ _,h=>h
 | .ivl _ _,h=>h
 | .bits _ _ _,⟨a,C,q,e,f,g,h,i,j⟩=>⟨a,C,q,e,f,g,h.mono s,i,j⟩
 | .smap _ _,⟨a,E,c,hc,e,⟨x,y,h1,h2,h3⟩,i⟩=>⟨a,E,c,s _ _ hc,e,⟨x,y,h1.mono s,h2,h3.mono s⟩,i⟩
 | .smiter _ _ _ _,⟨a,b,Lm,c,st,sn,h1,h0,h2,h3,h4⟩=>⟨a,b,Lm,c,st,sn,s _ _ h1,s _ _ h0,h2,h3.mono s,fun k hk=>let ⟨Lb,h5,h6⟩:=h4 k hk;⟨Lb,s _ _ h5,h6⟩⟩
 | .rowG _ _,⟨C,q,e,Lb,h1,h2,h3,h4⟩=>⟨C,q,e,Lb,h1,h2,s _ _ h3,fun i hi=>let ⟨V,h5,h6⟩:=h4 i hi;⟨V,h5,h6.mono s⟩⟩
 | .umap _ _ _,⟨a,E,c,e,hn,h⟩=>⟨a,E,c,e,hn,h.mono s⟩
 | .packo _ _ _ _,⟨t',ha,a,C,q,e,f,g,h,i,j⟩=>⟨t',ha.mono s,a,C,q,e,f,g,h.mono s,i,j⟩
end mono
instance Key.decEq (a b:Key):Decidable (a=b):=decidable_of_iff _ (Key.same_iff a b)
def Rho.add(ρ:Rho)(b:Key)(L:Loc):Rho:=fun b'=>if b=b' then some L else ρ b'
theorem Rho.sub_add{ρ:Rho}{b:Key}{L:Loc}(h:ρ b=none):Sub ρ (ρ.add b L):=by
 intro b' L' e
 unfold Rho.add
 split
 ·rename_i hb;subst hb;rw [h] at e;cases e
 ·exact e
theorem Rho.add_same(ρ:Rho)(b:Key)(L:Loc):(ρ.add b L) b=some L:=by simp [Rho.add]
section sim
variable {w0:Base} {ρ:Rho} {h:Heap} {w:World}
theorem Sim.none_of_get(hs:Sim w0 ρ h w){b:Key}(hb:h.get b=none):ρ b=none:=by
 cases e:ρ b with
 | none=>rfl
 | some L=>obtain⟨o,ho,_⟩:=hs.obj b L e;rw [hb] at ho;cases ho
theorem Sim.drew(hs:Sim w0 ρ h w):Sim w0 ρ h w.drew:=⟨hs.os,hs.out,hs.size,hs.old,hs.sub,hs.obj,hs.inj⟩
theorem Sim.new(hs:Sim w0 ρ h w):¬ w0.F w.heap.size:=fun e=>absurd (w0.lt _ e) (by have:=hs.size;omega)
theorem Sim.alloc(hs:Sim w0 ρ h w){b:Key}{o:AObj}{O:Obj}{L:Loc}(hb:h.get b=none)(hL:L.B=w.heap.size)
  (ho:ObjRel w0.F (ρ.add b L) L (some O) o):Sim w0 (ρ.add b L) (h.put b o) (w.alloc O):=by
 have hn:=hs.none_of_get hb
 have hsub:Sub ρ (ρ.add b L):=Rho.sub_add hn
 have hold:∀ k,k < w.heap.size→(w.alloc O).heap[k]?=w.heap[k]?:=fun k hk=>by show (w.heap.push O)[k]?=_;rw [Array.getElem?_push_lt hk,Array.getElem?_eq_getElem hk]
 refine⟨hs.os,hs.out,?_,?_,hs.sub.trans hsub,?_,?_⟩
 ·have:=hs.size;simp;omega
 ·intro k hk;rw [hold k (by have:=hs.size;have:=w0.lt k hk;omega)];exact hs.old k hk
 ·intro b' L' e
  by_cases hbb:b=b'
  ·subst hbb
   rw [Rho.add_same] at e
   cases e
   refine⟨o,Heap.get_put_same h b o,by simp [hL],?_⟩
   have:(w.alloc O).heap[L.B]?=some O:=by rw [hL];show (w.heap.push O)[w.heap.size]?=_;simp
   rw [this];exact ho
  ·have e':ρ b'=some L':=by simpa [Rho.add,hbb] using e
   obtain⟨o',g,hlt,hr⟩:=hs.obj b' L' e'
   refine⟨o',by rw [Heap.get_put_other h b b' o hbb];exact g,by simp;omega,?_⟩
   rw [hold _ hlt]
   exact hr.mono hsub
 ·intro b1 b2 L1 L2 o1 o2 e1 e2 g1 g2 l1 l2 hB
  by_cases h1:b=b1
  ·subst h1
   rw [Rho.add_same] at e1;cases e1
   by_cases h2:b=b2
   ·exact h2
   ·have e2':ρ b2=some L2:=by simpa [Rho.add,h2] using e2
    obtain⟨_,_,hlt,_⟩:=hs.obj b2 L2 e2'
    omega
  ·have e1':ρ b1=some L1:=by simpa [Rho.add,h1] using e1
   by_cases h2:b=b2
   ·subst h2
    rw [Rho.add_same] at e2;cases e2
    obtain⟨_,_,hlt,_⟩:=hs.obj b1 L1 e1'
    omega
   ·have e2':ρ b2=some L2:=by simpa [Rho.add,h2] using e2
    rw [Heap.get_put_other h b b1 o h1] at g1
    rw [Heap.get_put_other h b b2 o h2] at g2
    exact hs.inj b1 b2 L1 L2 o1 o2 e1' e2' g1 g2 l1 l2 hB
theorem Sim.put(hs:Sim w0 ρ h w){b:Key}{o o':AObj}{L:Loc}{O:Obj}{w':World}(hb:ρ b=some L)(hg:h.get b=some o)(hlive:o.live=true)
  (hN:¬ w0.F L.B) (hos:w'.os=w.os) (hout:w'.output=w.output) (hsz:w'.heap.size=w.heap.size) (hsame:∀ k,k≠L.B→w'.heap[k]?=w.heap[k]?) (hat:w'.heap[L.B]?=some O)
  (ho:ObjRel w0.F ρ L (some O) o'):Sim w0 ρ (h.put b o') w':=by
 refine⟨hos.trans hs.os,hout.trans hs.out,by rw [hsz];exact hs.size,?_,hs.sub,?_,?_⟩
 ·intro k hk;rw [hsame k (fun e=>hN (e▸hk))];exact hs.old k hk
 ·intro b' L' e
  by_cases hbb:b=b'
  ·subst hbb
   rw [hb] at e;cases e
   obtain⟨_,_,hlt,_⟩:=hs.obj b L hb
   refine⟨o',Heap.get_put_same h b o',by rw [hsz];exact hlt,?_⟩
   rw [hat];exact ho
  ·obtain⟨o2,g2,hlt,hr⟩:=hs.obj b' L' e
   refine⟨o2,by rw [Heap.get_put_other h b b' o' hbb];exact g2,by rw [hsz];exact hlt,?_⟩
   cases hl2:o2.live with
   | true=>
    have hne:L'.B≠L.B:=fun hB=>hbb (hs.inj b b' L L' o o2 hb e hg g2 hlive hl2 hB.symm)
    rw [hsame _ hne];exact hr
   | false=>
    cases o2 with
    | dead=>trivial
    | dom ds=>exact hr
    | ivl lo hi=>exact hr
    | _=>simp [AObj.live] at hl2
 ·intro b1 b2 L1 L2 o1 o2 e1 e2 g1 g2 l1 l2 hB
  have key:∀ bx ox,(h.put b o').get bx=some ox→ox.live=true→∃ oy,h.get bx=some oy∧oy.live=true:=by
   intro bx ox g l
   by_cases hx:b=bx
   ·subst hx;exact⟨o,hg,hlive⟩
   ·rw [Heap.get_put_other h b bx o' hx] at g;exact⟨ox,g,l⟩
  obtain⟨y1,k1,m1⟩:=key b1 o1 g1 l1
  obtain⟨y2,k2,m2⟩:=key b2 o2 g2 l2
  exact hs.inj b1 b2 L1 L2 y1 y2 e1 e2 k1 k2 m1 m2 hB
theorem Sim.less(hs:Sim w0 ρ h w){b:Key}{o o':AObj}(hg:h.get b=some o)(hl:o.live=true)(ho:∀ L,ρ b=some L→ObjRel w0.F ρ L w.heap[L.B]? o→ObjRel w0.F ρ L w.heap[L.B]? o'):Sim w0 ρ (h.put b o') w:=by
 refine⟨hs.os,hs.out,hs.size,hs.old,hs.sub,?_,?_⟩
 ·intro k K e
  obtain⟨x,hx,hlt,hr⟩:=hs.obj k K e
  by_cases hk:b=k
  ·subst hk
   rw [hg] at hx;cases hx
   exact⟨o',Heap.get_put_same h b o',hlt,ho K e hr⟩
  ·exact⟨x,by rw [Heap.get_put_other h b k _ hk];exact hx,hlt,hr⟩
 ·intro b1 b2 L1 L2 o1 o2 e1 e2 g1 g2 l1 l2 hB
  have key:∀ bx ox,(h.put b o').get bx=some ox→ox.live=true→∃ oy,h.get bx=some oy∧oy.live=true:=by
   intro bx ox g l
   by_cases hx:b=bx
   ·subst hx;exact⟨o,hg,hl⟩
   ·rw [Heap.get_put_other h b bx _ hx] at g;exact⟨ox,g,l⟩
  obtain⟨y1,k1,m1⟩:=key b1 o1 g1 l1
  obtain⟨y2,k2,m2⟩:=key b2 o2 g2 l2
  exact hs.inj b1 b2 L1 L2 y1 y2 e1 e2 k1 k2 m1 m2 hB
theorem Sim.sameGet(hs:Sim w0 ρ h w){h':Heap}(he:∀ k,h'.get k=h.get k):Sim w0 ρ h' w:=
 ⟨hs.os,hs.out,hs.size,hs.old,hs.sub,fun b L e=>by rw [he];exact hs.obj b L e,fun b b' L L' o o' e e' g g'=>hs.inj b b' L L' o o' e e' (by rw [←he];exact g) (by rw [←he];exact g')⟩
end sim
end Go.VM
namespace Go.VM
def Kept(ρ:Rho)(h:Heap)(ρ':Rho)(h':Heap):Prop:=∀ k o,h.get k=some o→ρ k=none→ρ' k=none∧h'.get k=some o
theorem Kept.refl(ρ:Rho)(h:Heap):Kept ρ h ρ h:=fun _ _ g e=>⟨e,g⟩
theorem Kept.trans{ρ ρ' ρ'':Rho}{h h' h'':Heap}(a:Kept ρ h ρ' h')(b:Kept ρ' h' ρ'' h''):Kept ρ h ρ'' h'':=
 fun k o g e=>let ⟨e',g'⟩:=a k o g e;b k o g' e'
def dv(P:Program)(w0:Base)(ρ:Rho)(h:Heap)(w:World)(s:Sem Value)(v:AV)(h':Heap):Prop:=
 ∃ ρ' V w',Sub ρ ρ'∧Kept ρ h ρ' h'∧Sim w0 ρ' h' w'∧Rel ρ' v V∧s.run P w=.ok V w'
def ValOk(P:Program)(w0:Base)(ρ:Rho)(h:Heap)(w:World)(s:Sem Value):Res→Prop
 | .val v h'=>dv P w0 ρ h w s v h'
 | .alts l=>∃ p,p ∈ l∧dv P w0 ρ h w s p.1 p.2
 | .bad _=>True
 | _=>False
section
variable {P:Program} {w0:Base} {ρ:Rho} {h:Heap} {w:World}
theorem au(hs:Sim w0 ρ h w){s:Sem Value}{v:AV}{V:Value}(hr:Rel ρ v V)(e:s.run P w=.ok V w):dv P w0 ρ h w s v h:=
 ⟨ρ,V,w,Sub.refl _,Kept.refl _ _,hs,hr,e⟩
theorem aK{b:Key}{o':AObj}{L:Loc}(hb:ρ b=some L):Kept ρ h ρ (h.put b o'):=by
 intro k x g e
 refine⟨e,?_⟩
 have hne:b≠k:=fun he=>by subst he;rw [hb] at e;cases e
 rw [Heap.get_put_other h b k o' hne];exact g
theorem eZ{b:Key}{o:AObj}{L:Loc}(hb:h.get b=none):Kept ρ h (ρ.add b L) (h.put b o):=by
 intro k x g e
 have hne:b≠k:=fun he=>by subst he;rw [hb] at g;cases g
 exact⟨by simp [Rho.add,hne,e],by rw [Heap.get_put_other h b k o hne];exact g⟩
theorem fe(hs:Sim w0 ρ h w){o:AObj}{O:Obj}{k:Key→Heap→Res}{s:Sem Value}{L:Loc}(hL:L.B=w.heap.size)
  (ho:∀ b,ρ b=none→ObjRel w0.F (ρ.add b L) L (some O) o)
  (hk:∀ b h',ρ b=none→Sub ρ (ρ.add b L)→Kept ρ h (ρ.add b L) h'→Sim w0 (ρ.add b L) h' (w.alloc O)→ValOk P w0 ρ h w s (k b h')):ValOk P w0 ρ h w s (h.alloc o k):=by
 obtain⟨t,n⟩:=h
 show ValOk P w0 ρ _ w s (Heap.allocT t n o k)
 unfold Heap.allocT
 cases e:t.get n with
 | some x=>exact trivial
 | none=>
  have hb:(Heap.mk t n).get n=none:=e
  have hn:=hs.none_of_get hb
  have h1:Sim w0 (ρ.add n L) ((Heap.mk t n).put n o) (w.alloc O):=hs.alloc hb hL (ho n hn)
  have h2:Sim w0 (ρ.add n L) (Heap.mk (t.set o n) (bV n)) (w.alloc O):=⟨h1.os,h1.out,h1.size,h1.old,h1.sub,h1.obj,h1.inj⟩
  have h3:Kept ρ (Heap.mk t n) (ρ.add n L) (Heap.mk (t.set o n) (bV n)):=fun k x g e=>eZ (h:=.mk t n) (o:=o) (L:=L) hb k x g e
  exact hk n _ hn (Rho.sub_add hn) h3 h2
theorem lJ{x:Option AV}{why:String}{s:Sem Value}(hx:∀ v,x=some v→dv P w0 ρ h w s v h):ValOk P w0 ρ h w s (okv x h why):=by
 cases x with
 | none=>exact trivial
 | some v=>exact hx v rfl
theorem aa{b:Bool}{x:Res}{y:Res}{s:Sem Value}(hx:b=true→ValOk P w0 ρ h w s x)(hy:b=false→ValOk P w0 ρ h w s y):ValOk P w0 ρ h w s (cond b x y):=by
 cases b
 ·exact hy rfl
 ·exact hx rfl
theorem oD(hs:Sim w0 ρ h w){b:Key}{L:Loc}(hb:ρ b=some L){cs:List AV}(hc:cellsOf (h.get b)=some cs):
  ∃ C e q,w.heap[L.B]?=some (.cells C e q)∧CellsRel ρ cs C L.base:=by
 obtain⟨o,g,_,r⟩:=hs.obj b L hb
 rw [g] at hc
 cases o with
 | cells e cs' opn fz=>
  have:cs'=cs:=by simpa [cellsOf] using hc
  subst this
  obtain⟨_,C,q,hO,_,_,hC,_⟩:=r
  exact⟨C,e,q,hO,hC⟩
 | fixed e cs'=>
  have:cs'=cs:=by simpa [cellsOf] using hc
  subst this
  obtain⟨C,q,⟨e',hO⟩,_,hC⟩:=r
  exact⟨C,e',q,hO,hC⟩
 | _=>simp [cellsOf] at hc
theorem Hv{cs:List AV}{C:Array Value}{base i:Nat}{v:AV}(hC:CellsRel ρ cs C base)(hv:cs[i]?=some v):∃ V,C[base+i]?=some V∧Rel ρ v V:=by
 obtain⟨V,e,r⟩:=hC.2.get? i hv
 rw [List.getElem?_take] at e
 split at e
 ·rw [List.getElem?_drop] at e
  exact⟨V,by simpa using e,r⟩
 ·cases e
theorem fL{B o:Nat}:∀ (n i:Nat) (acc:Array Value) (Vs:List Value),Vs.length=n→(∀ j V,Vs[j]?=some V→w.cell? ⟨B,o+(i+j),none⟩=some V)→
  (loadCellsFrom ⟨B,o,none⟩ i n acc).run P w=.ok (acc++Vs.toArray) w:=by
 intro n
 induction n with
 | zero=>intro i acc Vs hl _;cases Vs with
  | nil=>simp [loadCellsFrom]
  | cons=>simp at hl
 | succ n ih=>
  intro i acc Vs hl hc
  cases Vs with
  | nil=>simp at hl
  | cons V Vs=>
   have h0:=hc 0 V (by simp)
   have ha:(⟨B,o,none⟩:Addr).add i=⟨B,o+i,none⟩:=by unfold Addr.add;split<;>simp_all
   simp only [loadCellsFrom,Sem.run_bind,run_load,ha]
   simp only [Nat.add_zero] at h0
   rw [h0]
   simp only [Result.andThen_ok]
   rw [ih (i+1) (acc.push V) Vs (by simpa using hl) (fun j U hU=>by have:=hc (j+1) U (by simpa using hU);rw [show o+(i+1+j)=o+(i+(j+1)) by omega];exact this)]
   simp
theorem B0(hs:Sim w0 ρ h w){b:Key}{L:Loc}(hb:ρ b=some L){off n:Nat}{cs:List AV}(hc:aW h b off n=some cs):
  ∃ Vs,RelL ρ cs Vs∧(loadCells ⟨L.B,L.base+off,none⟩ n).run P w=.ok Vs.toArray w:=by
 unfold aW at hc
 cases hg:cellsOf (h.get b) with
 | none=>rw [hg] at hc;cases hc
 | some all=>
  rw [hg] at hc
  simp only [bU,bB,aG] at hc
  obtain⟨C,e,q,hO,hC⟩:=oD hs hb hg
  cases hl:Nat.beq ((all.drop off).take n).length n with
  | false=>rw [hl] at hc;cases hc
  | true=>
   rw [hl] at hc
   have hcs:(all.drop off).take n=cs:=by simpa using hc
   have hlen:((all.drop off).take n).length=n:=Nat.eq_of_beq_eq_true hl
   subst hcs
   have hr:=(hC.2.drop off).take n
   refine⟨_,hr,?_⟩
   unfold loadCells
   rw [fL n 0 #[] _ (by rw [hr.length];exact hlen)]
   ·simp
   ·intro j V hV
    have hj:((List.take all.length (C.toList.drop L.base)).drop off)[j]?=some V:=by
     rw [List.getElem?_take] at hV
     split at hV
     ·exact hV
     ·cases hV
    rw [List.getElem?_drop,List.getElem?_take] at hj
    split at hj
    ·rw [List.getElem?_drop] at hj
     simp only [World.cell?,hO]
     rw [show L.base+off+(0+j)=L.base+(off+j) by omega]
     simpa using hj
    ·cases hj
end
end Go.VM
namespace Go.VM
section
variable {P:Program} {w0:Base} {ρ:Rho} {h:Heap} {w:World}
theorem Ba{t:Nat}{d:TypeDesc}(hd:P.underlying t=some d):∃ i,P.info? t=some i:=by
 unfold Program.underlying at hd
 cases hi:P.info? t with
 | none=>simp [hi] at hd
 | some i=>exact⟨i,rfl⟩
theorem bj{t:Nat}{i:TypeInfo}(hi:P.info? t=some i):aU P t=i.size:=by simp [aU,hi]
theorem ay{t:Nat}{i:TypeInfo}(hi:P.info? t=some i):(sizeOf t).run P w=.ok i.size w:=by simp [sizeOf,typeInfo,hi]
theorem eT{t:Nat}(hk:known P t=true):(isAgg t).run P w=.ok (bQ P t) w:=by
 unfold known at hk
 cases hd:P.underlying t with
 | none=>simp [hd] at hk
 | some d=>cases d<;>simp [isAgg,underlying,hd,bQ]
theorem E7{t:Nat}(hk:bQ P t=true):known P t=true:=by
 unfold bQ at hk
 cases hd:P.underlying t with
 | none=>simp [hd] at hk
 | some d=>simp [known,hd]
theorem df{t:Nat}(hk:known P t=true):∃ i,P.info? t=some i:=by
 unfold known at hk
 cases hd:P.underlying t with
 | none=>simp [hd] at hk
 | some d=>exact Ba hd
theorem yJ{b:Key}{off:Nat}{v:AV}(hv:fv h b off=some v):∃ cs,cellsOf (h.get b)=some cs∧cs[off]?=some v:=by
 unfold fv at hv
 cases hg:cellsOf (h.get b) with
 | none=>rw [hg] at hv;cases hv
 | some cs=>
  rw [hg] at hv
  simp only [vl,bB] at hv
  exact⟨cs,rfl,by simpa [List.head?_drop] using hv⟩
theorem E8(hs:Sim w0 ρ h w){b:Key}{L:Loc}(hb:ρ b=some L){off:Nat}{v:AV}(hv:fv h b off=some v):
  ∃ V,Rel ρ v V∧w.cell? ⟨L.B,L.base+off,none⟩=some V:=by
 obtain⟨cs,hc,hi⟩:=yJ hv
 obtain⟨C,e,q,hO,hC⟩:=oD hs hb hc
 obtain⟨V,hV,r⟩:=Hv hC hi
 exact⟨V,r,by simp [World.cell?,hO,hV]⟩
theorem rN(hs:Sim w0 ρ h w){b:Key}{L:Loc}(hb:ρ b=some L){off t:Nat}{v:AV}
  (hv:(cond (bQ P t) ((aW h b off (aU P t)).map .agg) (cond (known P t) (fv h b off) none))=some v):
  ∃ V,Rel ρ v V∧(loadVar t ⟨L.B,L.base+off,none⟩).run P w=.ok V w:=by
 unfold loadVar
 cases ha:bQ P t with
 | true=>
  rw [ha] at hv
  have hk:=E7 ha
  obtain⟨i,hi⟩:=df hk
  cases hc:aW h b off (aU P t) with
  | none=>rw [hc] at hv;cases hv
  | some cs=>
   rw [hc] at hv
   have:v=.agg cs:=by simpa using hv.symm
   subst this
   obtain⟨Vs,hr,hrun⟩:=B0 (P:=P) hs hb hc
   rw [bj hi] at hrun
   refine⟨.agg Vs.toArray,.agg cs Vs hr,?_⟩
   simp [eT hk,ha,ay hi,hrun]
 | false=>
  rw [ha] at hv
  cases hk:known P t with
  | false=>rw [hk] at hv;cases hv
  | true=>
   rw [hk] at hv
   obtain⟨V,r,hc⟩:=E8 hs hb (v:=v) hv
   refine⟨V,r,?_⟩
   simp [eT hk,ha,hc]
theorem yK(hs:Sim w0 ρ h w){t:Nat}{a:AV}{A:Value}(ha:Rel ρ a A):ValOk P w0 ρ h w (Instr.loadAt t A) (tX P t a h):=by
 cases ha with
 | ptr b off L hb=>
  have key:∀ v,(cond (bQ P t) ((aW h b off (aU P t)).map .agg) (cond (known P t) (fv h b off) none))=some v→
    dv P w0 ρ h w (Instr.loadAt t (.pointer (some ⟨L.B,L.base+off,none⟩))) v h:=by
   intro v hv
   obtain⟨V,r,hrun⟩:=rN (P:=P) hs hb hv
   exact au hs r (by simp [Instr.loadAt,Instr.sureAddr,hrun])
  show ValOk P w0 ρ h w _ (cond (bQ P t) (okv ((aW h b off (aU P t)).map .agg) h "load agg") (cond (known P t) (okv (fv h b off) h "load") (.bad "load type")))
  cases ha:bQ P t with
  | true=>exact lJ fun v hv=>key v (by rw [ha];exact hv)
  | false=>
   cases hk:known P t with
   | true=>exact lJ fun v hv=>key v (by rw [ha,hk];exact hv)
   | false=>exact trivial
 | _=>exact trivial
def al(w:World)(B:Nat)(O:Obj):World:={ w with heap:=w.heap.setIfInBounds B O }
theorem aV{B:Nat}{O:Obj}(hB:B < w.heap.size):(al w B O).heap[B]?=some O:=by simp [al,hB]
theorem aO{B k:Nat}{O:Obj}(hk:k≠B):(al w B O).heap[k]?=w.heap[k]?:=by
 simp [al,Ne.symm hk]
theorem Bb{B o:Nat}{C:Array Value}{e:TypeId}{q:Nat × Nat}{v:Value}(hO:w.heap[B]?=some (.cells C e q)):
  w.setCell ⟨B,o,none⟩ v=al w B (.cells (C.setIfInBounds o v) e q):=by
 have hB:B < w.heap.size:=(Array.getElem?_eq_some_iff.1 hO).1
 have hv:w.heap[B]=.cells C e q:=(Array.getElem?_eq_some_iff.1 hO).2
 unfold World.setCell al
 congr 1
 apply Array.ext_getElem?
 intro i
 simp only [Array.getElem?_modify,Array.getElem?_setIfInBounds]
 by_cases hi:B=i
 ·subst hi;simp [hB,hv]
 ·simp [hi]
theorem mM{B:Nat}{O O':Obj}:al (al w B O) B O'=al w B O':=by simp [al]
theorem ja{B o:Nat}{e:TypeId}{q:Nat × Nat}:∀ (vs:List Value) (i:Nat) (w:World) (C:Array Value),w.heap[B]?=some (.cells C e q)→o+i+vs.length≤C.size→
  (∀ v ∈ vs,v.oneCell'=true)→(∀ j,o+i≤j→j < o+i+vs.length→¬ (q.1≤j∧j < q.2))→
  (storeCells ⟨B,o,none⟩ vs i).run P w=.ok () (al w B (.cells (C.toList.take (o+i)++vs++C.toList.drop (o+i+vs.length)).toArray e q)):=by
 intro vs
 induction vs with
 | nil=>
  intro i w C hO _ _ _
  simp only [storeCells,Sem.run_pure]
  congr 1
  have hB:B < w.heap.size:=(Array.getElem?_eq_some_iff.1 hO).1
  have hv:w.heap[B]=.cells C e q:=(Array.getElem?_eq_some_iff.1 hO).2
  unfold al
  simp only [List.append_nil,List.length_nil,Nat.add_zero,List.take_append_drop]
  have:w.heap.setIfInBounds B (.cells C e q)=w.heap:=by
   apply Array.ext_getElem?
   intro k
   rw [Array.getElem?_setIfInBounds]
   split
   ·rename_i hk;subst hk;simp [hB,hv]
   ·rfl
  simp [this]
 | cons v vs ih=>
  intro i w C hO hlen h1 hfz
  have hlt:o+i < C.size:=by simp at hlen;omega
  have ha:(⟨B,o,none⟩:Addr).add i=⟨B,o+i,none⟩:=by unfold Addr.add;split<;>simp_all
  have hc:w.cell? ⟨B,o+i,none⟩=some C[o+i]:=by simp [World.cell?,hO,hlt]
  have hf:w.frozen? ⟨B,o+i,none⟩=false:=by
   have:=hfz (o+i) (Nat.le_refl _) (by simp)
   simp only [World.frozen?,hO]
   simp only [Bool.and_eq_false_iff,decide_eq_false_iff_not]
   by_cases hq:q.1≤o+i
   ·exact .inr (fun hh=>this ⟨hq,hh⟩)
   ·exact .inl hq
  simp only [storeCells,Sem.run_bind,ha,run_store P w _ v .plain (h1 v (by simp)),hc,hf]
  simp only [Bool.false_eq_true,if_false,Result.andThen_ok]
  have hB:B < w.heap.size:=(Array.getElem?_eq_some_iff.1 hO).1
  rw [Bb hO]
  rw [ih (i+1) _ (C.setIfInBounds (o+i) v) (aV hB) (by simp at hlen ⊢;omega) (fun u hu=>h1 u (by simp [hu])) (fun j hj hj'=>hfz j (by omega) (by simp;omega))]
  rw [mM]
  congr 4
  have e1:(C.setIfInBounds (o+i) v).toList=C.toList.set (o+i) v:=by simp
  rw [e1]
  have hl:o+i < C.toList.length:=by simpa using hlt
  rw [show o+(i+1)=(o+i)+1 by omega,List.take_succ_eq_append_getElem (by simpa using hlt),List.getElem_set_self]
  simp only [List.length_cons]
  rw [List.take_set_of_le (Nat.le_refl _),List.drop_set_of_lt (by omega)]
  simp [show o+i+1+vs.length=o+i+(vs.length+1) by omega]
end
end Go.VM
namespace Go.VM
theorem Hw{ρ:Rho}{v:AV}{V:Value}(hr:Rel ρ v V)(h1:v.one=true):V.oneCell'=true:=by
 cases hr with
 | tab b ds vs L V hb hp h=>rcases jX hp h with ⟨_,_,_,_,rfl⟩ | ⟨_,_,_,rfl⟩ | ⟨_,_,rfl⟩<;>rfl
 | _=>first | rfl | (simp [AV.one] at h1)
theorem lK{ρ:Rho}:∀ {vs:List AV} {Vs:List Value},RelL ρ vs Vs→dq vs=true→∀ V ∈ Vs,V.oneCell'=true
 | _,_,.nil,_,V,hV=>by simp at hV
 | _,_,.cons v V' r R hv hr,h1,V,hV=>by
  have hb:v.one=true∧dq r=true:=by
   simp only [dq] at h1
   cases hv1:v.one with
   | true=>rw [hv1] at h1;exact⟨rfl,h1⟩
   | false=>rw [hv1] at h1;cases h1
  rcases List.mem_cons.1 hV with rfl | hm
  ·exact Hw hv hb.1
  ·exact lK hr hb.2 V hm
theorem oF(cs:List AV)(off:Nat)(vs:List AV):splice cs off vs=cs.take off++(vs++cs.drop (off+vs.length)):=by
 simp [splice,aL,bU,bB,aG]
theorem gk{cs:List AV}{off:Nat}{vs:List AV}(h:off+vs.length≤cs.length):(splice cs off vs).length=cs.length:=by
 simp [oF];omega
section
variable {P:Program} {w0:Base} {ρ:Rho} {h:Heap} {w:World}
theorem CellsRel.splice{cs:List AV}{C:Array Value}{base off:Nat}{vs:List AV}{Vs:List Value}(hC:CellsRel ρ cs C base)(hv:RelL ρ vs Vs)(hle:off+vs.length≤cs.length):
  CellsRel ρ (Go.VM.splice cs off vs) (C.toList.take (base+off)++Vs++C.toList.drop (base+off+Vs.length)).toArray base:=by
 have hl:=hv.length
 have hsz:=hC.1
 refine⟨by rw [gk hle];simp;omega,?_⟩
 rw [gk hle,oF]
 have e:((C.toList.take (base+off)++Vs++C.toList.drop (base+off+Vs.length)).toArray.toList.drop base).take cs.length=
   ((C.toList.drop base).take cs.length).take off++(Vs++((C.toList.drop base).take cs.length).drop (off+vs.length)):=by
  apply List.ext_getElem?
  intro i
  simp only [List.getElem?_take,List.getElem?_drop,List.getElem?_append,List.length_append,List.length_take,List.length_drop,Array.length_toList]
  rw [hl]
  by_cases h1:i < off
  ·have a1:i < cs.length:=by omega
   have a2:base+i < min (base+off) C.size:=by omega
   have a3:base+i < min (base+off) C.size+vs.length:=by omega
   have a4:i < min off (min cs.length (C.size - base)):=by omega
   have a5:base+i < base+off:=by omega
   simp [a1,a2,a3,a4,a5,h1]
  ·by_cases h2:i < off+vs.length
   ·have a1:i < cs.length:=by omega
    have a2:¬ base+i < min (base+off) C.size:=by omega
    have a3:base+i < min (base+off) C.size+vs.length:=by omega
    have a4:¬ i < min off (min cs.length (C.size - base)):=by omega
    have a5:i - min off (min cs.length (C.size - base)) < vs.length:=by omega
    have a6:base+i - min (base+off) C.size=i - min off (min cs.length (C.size - base)):=by omega
    simp [a1,a2,a3,a4,a5,a6]
   ·by_cases h3:i < cs.length
    ·have a2:¬ base+i < min (base+off) C.size+vs.length:=by omega
     have a4:¬ i < min off (min cs.length (C.size - base)):=by omega
     have a5:¬ i - min off (min cs.length (C.size - base)) < vs.length:=by omega
     have a6:off+vs.length+(i - min off (min cs.length (C.size - base)) - vs.length)=i:=by omega
     have a7:base+off+vs.length+(base+i - (min (base+off) C.size+vs.length))=base+i:=by omega
     simp [h3,a2,a4,a5,a6,a7]
    ·have a4:¬ i < min off (min cs.length (C.size - base)):=by omega
     have a5:¬ i - min off (min cs.length (C.size - base)) < vs.length:=by omega
     have a6:¬ off+vs.length+(i - min off (min cs.length (C.size - base)) - vs.length) < cs.length:=by omega
     simp [h3,a4,a5,a6]
 rw [e]
 exact (hC.2.take off).append (hv.append (hC.2.drop (off+vs.length)))
theorem eD(hs:Sim w0 ρ h w){b:Key}{L:Loc}(hb:ρ b=some L){off:Nat}{vs:List AV}{Vs:List Value}(hv:RelL ρ vs Vs){h':Heap}(hh:bo h b off vs=some h'):
  ∃ w',(storeCells ⟨L.B,L.base+off,none⟩ Vs 0).run P w=.ok () w'∧Sim w0 ρ h' w'∧Kept ρ h ρ h':=by
 unfold bo at hh
 obtain⟨o,g,hlt,r⟩:=hs.obj b L hb
 rw [g] at hh
 cases o with
 | cells e cs opn fz=>
  simp only [aG] at hh
  cases h1:Nat.ble (off+vs.length) cs.length with
  | false=>rw [h1] at hh;cases hh
  | true=>
   cases h2:dq vs with
   | false=>rw [h1,h2] at hh;cases hh
   | true=>
    cases h3:Nat.ble fz off with
    | false=>rw [h1,h2,h3] at hh;cases hh
    | true=>
     rw [h1,h2,h3] at hh
     have hh':h.put b (.cells e (splice cs off vs) opn fz)=h':=by simpa using hh
     subst hh'
     have hle:off+vs.length≤cs.length:=Nat.le_of_ble_eq_true h1
     have hfz:fz≤off:=Nat.le_of_ble_eq_true h3
     obtain⟨hN,C,q,hO,hsz,hq,hC,hop,hq0⟩:=r
     have hl:=hv.length
     have hCl:=hC.1
     have hrun:=ja (P:=P) (B:=L.B) (o:=L.base+off) (e:=e) (q:=q) Vs 0 w C hO (by omega) (lK hv h2)
      (fun j hj hj' hqq=>by rcases hq j hqq.1 hqq.2 with hh | hh<;>omega)
     refine⟨_,hrun,?_,aK hb⟩
     simp only [Nat.add_zero]
     refine hs.put (o:=.cells e cs opn fz) (O:=.cells (C.toList.take (L.base+off)++Vs++C.toList.drop (L.base+off+Vs.length)).toArray e q) hb g rfl hN rfl rfl (by simp [al]) (fun k hk=>aO hk) (aV hlt) ?_
     refine⟨hN,_,q,rfl,?_,hq,hC.splice hv hle,fun ho=>⟨(hop ho).1,by rw [gk hle];exact (hop ho).2⟩,hq0⟩
     simp;omega
 | _=>cases hh
theorem dw{v:AV}{V:Value}(hr:Rel ρ v V)(hsure:v.sure=true):RelL ρ v.cells V.cells.toList:=by
 cases hr with
 | agg a A ha=>exact ha
 | junk V=>simp [AV.sure] at hsure
 | tab b ds vs L V hb hp h=>
  have h1:V.cells.toList=[V]:=by rcases jX hp h with ⟨_,_,_,_,rfl⟩ | ⟨_,_,_,rfl⟩ | ⟨_,_,rfl⟩<;>rfl
  rw [h1]
  exact .cons _ _ _ _ (.tab b ds vs L V hb hp h) .nil
 | _=>(simp only [AV.cells,Value.cells];exact .cons _ _ _ _ (by constructor<;>assumption) .nil)
end
end Go.VM
namespace Go.VM
theorem lj:∀ l:List UInt8,ac l.length (aZ l)=l
 | []=>rfl
 | b::r=>by
  have hb:=b.toNat_lt
  have h1:(b.toNat+256 * aZ r) / 256=aZ r:=by omega
  have h2:UInt8.ofNat (b.toNat+256 * aZ r)=b:=by
   apply UInt8.toNat_inj.1
   simp
  simp only [List.length_cons,ac,aZ,h1,h2,lj r]
theorem dD:∀ l:List UInt8,aZ l < 256 ^ l.length
 | []=>by simp [aZ]
 | b::r=>by
  have hb:=b.toNat_lt
  have:=dD r
  simp only [aZ,List.length_cons,Nat.pow_succ]
  omega
theorem rP(s:ByteArray):strOf s.data.toList.length (aZ s.data.toList)=s:=by
 obtain⟨⟨l⟩⟩:=s
 simp [strOf,lj]
theorem aD:∀ (n c:Nat),(ac n c).length=n
 | 0,_=>rfl
 | n+1,c=>by simp [ac,aD n]
mutual
theorem cT(ρ:Rho):∀ (V:Value) (v:AV),bg V=some v→Rel ρ v V
 | .bool b,v,h=>by simp [bg] at h;subst h;exact .bool b
 | .int k n,v,h=>by simp [bg] at h;subst h;exact .int k n
 | .float k b,v,h=>by simp [bg] at h;subst h;exact .float k b
 | .string s,v,h=>by
  simp only [bg,Option.some.injEq] at h
  subst h
  have:=Rel.str (ρ:=ρ) s.data.toList.length (aZ s.data.toList) (dD _)
  rwa [rP] at this
 | .pointer none,v,h=>by simp [bg] at h;subst h;exact .nilPtr
 | .pointer (some _),v,h=>by simp [bg] at h
 | .slice none 0 0,v,h=>by simp [bg] at h;subst h;exact .nilSlice
 | .slice none 0 (_+1),v,h=>by simp [bg] at h
 | .slice none (_+1) _,v,h=>by simp [bg] at h
 | .slice (some _) _ _,v,h=>by simp [bg] at h
 | .map none,v,h=>by simp [bg] at h;subst h;exact .nilMap
 | .map (some _),v,h=>by simp [bg] at h
 | .nilFunc,v,h=>by simp [bg] at h;subst h;exact .nilFunc
 | .nilIface,v,h=>by simp [bg] at h;subst h;exact .nilIface
 | .agg ⟨cs⟩,v,h=>by
  simp only [bg,Option.map_eq_some_iff] at h
  obtain⟨a,ha,rfl⟩:=h
  exact .agg a cs (ofVals_rel ρ cs a ha)
 | .tuple ⟨[]⟩,v,h=>by simp [bg] at h;subst h;exact .undef
 | .tuple ⟨_::_⟩,v,h=>by simp [bg] at h
 | .complex _ _ _,v,h=>by simp [bg] at h
 | .chan _,v,h=>by simp [bg] at h
 | .func _ _ _,v,h=>by simp [bg] at h
 | .iface _ _,v,h=>by simp [bg] at h
theorem ofVals_rel(ρ:Rho):∀ (V:List Value) (v:List AV),ofVals V=some v→RelL ρ v V
 | [],v,h=>by simp [ofVals] at h;subst h;exact .nil
 | x::r,v,h=>by
  simp only [ofVals] at h
  cases hx:bg x with
  | none=>simp [hx] at h
  | some a=>
   cases hr:ofVals r with
   | none=>simp [hx,hr] at h
   | some b=>
    simp [hx,hr] at h
    subst h
    exact .cons a x b r (cT ρ x a hx) (ofVals_rel ρ r b hr)
end
section
variable {P:Program} {w0:Base} {ρ:Rho} {h:Heap} {w:World}
theorem Ja{T:Slots}{t:Array Value}(hT:TRel ρ T t)(E:Operand→Value)(hE:∀ i,E (.tmp i)=t.getD i Go.undef)(hc:∀ v,E (.const v)=v)(hf:∀ f,E (.func f)=.func (.func f) #[] #[])
  (hg:∀ g,g < P.globals.size→∃ L,ρ (jy g)=some L∧E (.global g)=.pointer (some ⟨L.B,L.base,none⟩)) (x:Operand):Rel ρ (ev P T x) (E x):=by
 cases x with
 | tmp i=>rw [hE];exact hT.at_ i
 | const v=>
  rw [hc]
  show Rel ρ (G7 (bg v)) v
  cases ho:bg v with
  | none=>exact .junk v
  | some a=>exact cT ρ v a ho
 | func f=>rw [hf];exact .func f [] [] [] [] .nil .nil
 | global g=>
  show Rel ρ (cond (Nat.blt g P.globals.size) (.ptr (jy g) 0) .junk) _
  cases hb:Nat.blt g P.globals.size with
  | false=>exact .junk _
  | true=>
   obtain⟨L,hL,hEg⟩:=hg g (by simpa [Nat.blt_eq] using hb)
   rw [hEg]
   exact .ptr (jy g) 0 L hL
def Jb(P:Program)(w0:Base)(ρ:Rho)(h:Heap)(w:World)(s:Sem Unit)(h':Heap):Prop:=
 ∃ ρ' w',Sub ρ ρ'∧Kept ρ h ρ' h'∧Sim w0 ρ' h' w'∧s.run P w=.ok () w'
def oG(P:Program)(w0:Base)(ρ:Rho)(h:Heap)(w:World)(s:Sem Unit):Res→Prop
 | .val v h'=>v=.undef∧Jb P w0 ρ h w s h'
 | .bad _=>True
 | _=>False
theorem ce:∀ n c:Nat,(bG n c).length=n
 | 0,_=>rfl
 | n+1,c=>by simp [bG,ce n]
theorem iq(c i:Nat):cK c i=c.testBit i:=by
 unfold cK
 rw [Nat.testBit_eq_decide_div_mod_eq,Bool.eq_iff_iff]
 show Nat.beq (c >>> i % 2) 1=true ↔ _
 rw [Nat.shiftRight_eq_div_pow]
 simp
theorem rQ(c i:Nat):cK (Nat.shiftRight c 1) i=cK c (i+1):=by
 rw [iq,iq]
 show (c >>> 1).testBit i=_
 rw [Nat.testBit_shiftRight,Nat.add_comm]
theorem dX:∀ (n c i:Nat),i < n→(bG n c)[i]?=some (.bool (cK c i))
 | 0,_,_,h=>absurd h (Nat.not_lt_zero _)
 | n+1,c,0,_=>rfl
 | n+1,c,i+1,h=>by
  show (bG n (Nat.shiftRight c 1))[i]?=_
  rw [dX n _ i (by omega),rQ]
theorem E9(c i j:Nat)(v:Bool):cK (pi c i v) j=if i=j then v else cK c j:=by
 rw [iq,iq]
 have h1:(Nat.shiftLeft 1 i).testBit j=decide (i=j):=by
  show (1 <<< i).testBit j=_
  rw [Nat.testBit_shiftLeft]
  by_cases hij:i=j
  ·subst hij;simp
  ·by_cases hle:i≤j
   ·have:(1:Nat).testBit (j - i)=false:=by
     have:j - i≠0:=by omega
     rw [Bool.eq_false_iff]
     exact fun e=>this (Nat.testBit_one_eq_true_iff_self_eq_zero.1 e)
    simp [hij,this]
   ·simp [hij];omega
 unfold pi
 cases v with
 | true=>
  show (c ||| Nat.shiftLeft 1 i).testBit j=_
  rw [Nat.testBit_or,h1]
  by_cases hij:i=j<;>simp [hij]
 | false=>
  show ((c ||| Nat.shiftLeft 1 i) ^^^ Nat.shiftLeft 1 i).testBit j=_
  rw [Nat.testBit_xor,Nat.testBit_or,h1]
  by_cases hij:i=j<;>simp [hij]
theorem yL{n c i:Nat}(hi:i < n)(v:Bool):bG n (pi c i v)=splice (bG n c) i [.bool v]:=by
 unfold splice
 rw [bU,bB,aL,aL,aG]
 apply List.ext_getElem?
 intro j
 by_cases hj:j < n
 ·rw [dX n _ j hj,E9]
  by_cases h1:j < i
  ·rw [List.getElem?_append_left (by rw [List.length_take,ce];omega),List.getElem?_take,if_pos h1,dX n c j hj,if_neg (by omega)]
  ·rw [List.getElem?_append_right (by rw [List.length_take,ce];omega),List.length_take,ce,Nat.min_eq_left (by omega)]
   by_cases h2:j=i
   ·subst h2;simp
   ·rw [List.getElem?_append_right (by simp;omega),List.getElem?_drop,if_neg (by omega)]
    have:i+[AV.bool v].length+(j - i - [AV.bool v].length)=j:=by simp;omega
    rw [this,dX n c j hj]
 ·rw [List.getElem?_eq_none (by rw [ce];omega),List.getElem?_eq_none]
  simp [ce];omega
theorem Ea(hs:Sim w0 ρ h w){t:Nat}{b:Key}{off:Nat}{L:Loc}(hb:ρ b=some L){x:AV}{X:Value}(hx:Rel ρ x X)(hk:known P t=true)(hl:Nat.beq (len x.cells) (aU P t)=true):
  oG P w0 ρ h w (Instr.storeAt t (.pointer (some ⟨L.B,L.base+off,none⟩)) X) (tY b off x h (h.get b)):=by
 unfold tY
 split
 ·rename_i e n c v hg
  cases hc:Nat.blt off n with
  | false=>exact trivial
  | true=>
   rw [cond_true,af]
   have hlt:off < n:=by rw [Nat.blt_eq] at hc;exact hc
   have s1:Sim w0 ρ (h.put b (.cells e (bG n c) false 0)) w:=hs.less hg rfl fun L' _ ho=>ho
   have g1:(h.put b (.cells e (bG n c) false 0)).get b=some (.cells e (bG n c) false 0):=Heap.get_put_same _ _ _
   have hset:bo (h.put b (.cells e (bG n c) false 0)) b off [AV.bool v]=some ((h.put b (.cells e (bG n c) false 0)).put b (.cells e (splice (bG n c) off [.bool v]) false 0)):=by
    unfold bo
    rw [g1]
    have:Nat.ble (off+len [AV.bool v]) (len (bG n c))=true:=by rw [aG,aG,ce];exact Nat.ble_eq_true_of_le (by show off+1≤n;omega)
    dsimp only
    rw [this]
    rfl
   have hr:=dw hx rfl
   obtain⟨w',hrun,hs',hkept⟩:=eD (P:=P) s1 hb hr hset
   obtain⟨i,hi⟩:=df hk
   have hsz:X.cells.size=i.size:=by
    have e1:=hr.length
    have e2:=Nat.eq_of_beq_eq_true hl
    rw [aG,bj hi] at e2
    simpa using e1.trans e2
   refine⟨rfl,ρ,w',Sub.refl _,aK hb,?_,?_⟩
   ·rw [←yL hlt] at hs'
    have s2:=hs'.less (o:=.cells e (bG n (pi c off v)) false 0) (o':=.bits e n (pi c off v)) (Heap.get_put_same _ _ _) rfl fun L' _ ho=>ho
    refine s2.sameGet fun k=>?_
    by_cases hkb:b=k
    ·subst hkb;rw [Heap.get_put_same,Heap.get_put_same]
    ·rw [Heap.get_put_other _ b k _ hkb,Heap.get_put_other _ b k _ hkb,Heap.get_put_other _ b k _ hkb,Heap.get_put_other _ b k _ hkb]
   ·simp only [Instr.storeAt,Instr.sureAddr,storeVar]
    simp [ay hi,hsz,hrun]
 ·exact trivial
theorem Eb(hs:Sim w0 ρ h w){t:Nat}{a x:AV}{A X:Value}(ha:Rel ρ a A)(hx:Rel ρ x X):oG P w0 ρ h w (Instr.storeAt t A X) (xr P t a x h):=by
 cases ha with
 | ptr b off L hb=>
  show oG P w0 ρ h w _ (cond (and (known P t) (Nat.beq (len x.cells) (aU P t))) (match bo h b off x.cells with | some h=>.val .undef h | none=>tY b off x h (h.get b)) (.bad "store size"))
  cases hk:known P t with
  | false=>exact trivial
  | true=>
   cases hl:Nat.beq (len x.cells) (aU P t) with
   | false=>exact trivial
   | true=>
    cases hc:bo h b off x.cells with
    | none=>exact Ea hs hb hx hk hl
    | some h'=>
     have hsure:x.sure=true:=by
      cases x with
      | junk=>
       exfalso
       unfold bo at hc
       split at hc
       ·simp only [AV.cells,dq,AV.one] at hc
        revert hc
        cases Nat.ble (off+len [AV.junk]) _<;>simp
       ·cases hc
      | _=>rfl
     have hr:=dw hx hsure
     obtain⟨w',hrun,hs',hkept⟩:=eD (P:=P) hs hb hr hc
     obtain⟨i,hi⟩:=df hk
     have hsz:X.cells.size=i.size:=by
      have e1:=hr.length
      have e2:=Nat.eq_of_beq_eq_true hl
      rw [aG,bj hi] at e2
      simpa using e1.trans e2
     refine⟨rfl,ρ,w',Sub.refl _,hkept,hs',?_⟩
     simp only [Instr.storeAt,Instr.sureAddr,storeVar]
     simp [ay hi,hsz,hrun]
 | _=>exact trivial
theorem lL{cs:List AV}{Cs:List Value}{b:Key}{e:Nat}{N:Nat→Prop}(hN:¬ N w.heap.size)(hr:RelL ρ cs Cs)(hsub:Sub ρ (ρ.add b ⟨w.heap.size,0,cs.length⟩)):
  ObjRel N (ρ.add b ⟨w.heap.size,0,cs.length⟩) ⟨w.heap.size,0,cs.length⟩ (some (.cells Cs.toArray e)) (.cells e cs false 0):=by
 have hl:=hr.length
 refine⟨hN,Cs.toArray,(0,0),rfl,by simpa using hl,fun j h1 h2=>by simp at h2,⟨by simp [hl],?_⟩,fun _=>⟨rfl,rfl⟩,fun _ _=>rfl⟩
 simpa [hl,List.take_of_length_le (Nat.le_of_eq hl)] using hr.mono hsub
end
end Go.VM
namespace Go.VM
section
variable {P:Program} {w0:Base} {ρ:Rho} {h:Heap} {w:World}
theorem cz{t:Nat}{z:AV}(hz:bK P t=some z):∃ Z,(zeroValue t).run P w=.ok Z w∧bg Z=some z:=by
 unfold bK at hz
 cases hi:P.info? t with
 | none=>simp [hi] at hz
 | some i=>
  cases hzz:i.zero with
  | none=>simp [hi,hzz] at hz
  | some Z=>
   refine⟨Z,by simp [zeroValue,typeInfo,hi,hzz],?_⟩
   simpa [hi,hzz] using hz
theorem iu{V:Value}{v:AV}(hv:bg V=some v):v.sure=true:=by
 cases V with
 | pointer a=>cases a<;>simp [bg] at hv;subst hv;rfl
 | map a=>cases a<;>simp [bg] at hv;subst hv;rfl
 | slice a l c=>
  cases a with
  | some _=>simp [bg] at hv
  | none=>cases l<;>cases c<;>simp [bg] at hv;subst hv;rfl
 | agg cs=>
  obtain⟨cs⟩:=cs
  simp only [bg,Option.map_eq_some_iff] at hv
  obtain⟨a,_,rfl⟩:=hv;rfl
 | tuple cs=>
  obtain⟨cs⟩:=cs
  cases cs<;>simp [bg] at hv;subst hv;rfl
 | _=>simp [bg] at hv<;>(subst hv;rfl)
theorem fM(hs:Sim w0 ρ h w){e:Nat}{cs:List AV}{Cs:List Value}(hr:RelL ρ cs Cs){s:Sem Value}{V:Value}
  (hrun:s.run P w=.ok V (w.alloc (.cells Cs.toArray e))) {v:Key→AV} (hv:∀ b,Rel (ρ.add b ⟨w.heap.size,0,cs.length⟩) (v b) V):
  ValOk P w0 ρ h w s (h.alloc (.cells e cs false 0) (fun b h=>.val (v b) h)):=
 fe hs (L:=⟨w.heap.size,0,cs.length⟩) rfl (fun _ hn=>lL hs.new hr (Rho.sub_add hn))
  (fun b _ _ hsub hk hs'=>⟨_,V,_,hsub,hk,hs',hv b,hrun⟩)
theorem kB{b:Key}{n:Nat}:Rel (ρ.add b ⟨w.heap.size,0,n⟩) (.ptr b 0) (.pointer (some ⟨w.heap.size,0,none⟩)):=
 Rel.ptr b 0 ⟨w.heap.size,0,n⟩ (Rho.add_same _ _ _)
theorem Ec(hs:Sim w0 ρ h w){e:Nat}:ValOk P w0 ρ h w (Instr.alloc e true (.tuple #[])) (iM P e h):=by
 unfold iM
 cases hz:bK P e with
 | none=>exact trivial
 | some z=>
  obtain⟨Z,hrun,ho⟩:=cz (w:=w) hz
  have hr:=dw (cT ρ Z z ho) (iu ho)
  refine fM hs hr (V:=.pointer (some ⟨w.heap.size,0,none⟩)) ?_ (fun b=>kB)
  simp [Instr.alloc,hrun,newVar,newRow]
theorem Hx(hs:Sim w0 ρ h w){e:Nat}{v:AV}{V:Value}(hv:Rel ρ v V):ValOk P w0 ρ h w (Instr.box e V) (vb e v h):=by
 unfold vb
 refine aa (fun hsure=>?_) (fun _=>trivial)
 refine fM hs (dw hv hsure) (V:=.pointer (some ⟨w.heap.size,0,none⟩)) ?_ (fun b=>kB)
 simp [Instr.box,newVar,newRow]
theorem Ed(off:Nat):∀ (l:List Value) (k:Nat) (C:Array Value),off+k+l.length≤C.size→
  (l.zipIdx k).foldl (fun cs x=>cs.setIfInBounds (off+x.2) x.1) C=(C.toList.take (off+k)++(l++C.toList.drop (off+k+l.length))).toArray:=by
 intro l
 induction l with
 | nil=>intro k C _;simp
 | cons v l ih=>
  intro k C hle
  have hlt:off+k < C.size:=by simp at hle;omega
  simp only [List.zipIdx_cons,List.foldl_cons]
  rw [ih (k+1) _ (by simp at hle ⊢;omega)]
  congr 1
  have e1:(C.setIfInBounds (off+k) v).toList=C.toList.set (off+k) v:=by simp
  rw [e1,show off+(k+1)=(off+k)+1 by omega,List.take_succ_eq_append_getElem (by simpa using hlt),List.getElem_set_self,List.take_set_of_le (Nat.le_refl _),List.drop_set_of_lt (by omega)]
  simp [show off+k+1+l.length=off+k+(l.length+1) by omega]
theorem wL{place:Nat→Option (Nat × Nat)}:∀ {ps:List (Nat × AV)} {Ps:List (Nat × Value)} {cs:List AV} {Cs:List Value} {r:List AV},
  ps.length=Ps.length→(∀ i,(hi:i < ps.length)→(hi':i < Ps.length)→ps[i].1=Ps[i].1∧Rel ρ ps[i].2 Ps[i].2)→RelL ρ cs Cs→qj place cs ps=some r→
  ∃ R,Instr.fill place Cs.toArray Ps=some R∧RelL ρ r R.toList:=by
 intro ps
 induction ps with
 | nil=>
  intro Ps cs Cs r hl _ hr hf
  cases Ps with
  | nil=>simp [qj] at hf;subst hf;exact⟨Cs.toArray,rfl,by simpa using hr⟩
  | cons=>simp at hl
 | cons p ps ih=>
  intro Ps cs Cs r hl hp hr hf
  cases Ps with
  | nil=>simp at hl
  | cons Q Ps=>
   obtain⟨i,v⟩:=p
   obtain⟨I,V⟩:=Q
   have h0:=hp 0 (by simp) (by simp)
   simp only [List.getElem_cons_zero] at h0
   obtain⟨rfl,hv⟩:=h0
   simp only [qj] at hf
   cases hpl:place i with
   | none=>simp [hpl] at hf
   | some os=>
    obtain⟨off,size⟩:=os
    simp only [hpl] at hf
    cases hsure:v.sure with
    | false=>simp [hsure] at hf
    | true=>
     cases hb:Nat.beq (len v.cells) size with
     | false=>simp [hsure,hb] at hf
     | true=>
      cases hle:Nat.ble (off+size) (len cs) with
      | false=>simp [hsure,hb,hle] at hf
      | true=>
       simp only [hsure,hb,hle,Bool.and_self,cond_true] at hf
       have hvc:=dw hv hsure
       have e1:v.cells.length=size:=by rw [←aG];exact Nat.eq_of_beq_eq_true hb
       have e2:off+size≤cs.length:=by rw [←aG];exact Nat.le_of_ble_eq_true hle
       have e3:=hvc.length
       have e4:=hr.length
       have hsp:RelL ρ (splice cs off v.cells) (Cs.take off++(V.cells.toList++Cs.drop (off+v.cells.length))):=by
        rw [oF];exact (hr.take off).append (hvc.append (hr.drop _))
       obtain⟨R,hR,hRr⟩:=ih (Ps:=Ps) (by simpa using hl) (fun j hj hj'=>by have:=hp (j+1) (by simpa using hj) (by simpa using hj');simpa only [List.getElem_cons_succ] using this) hsp hf
       refine⟨R,?_,hRr⟩
       rw [←hR]
       simp only [Instr.fill,hpl]
       have s1:V.cells.size=size:=by have:=e3;simp at this;omega
       have c1:¬ (V.cells.size≠size || decide (off+V.cells.size > Cs.toArray.size))=true:=by simp [s1];omega
       rw [if_neg (by simpa using c1)]
       congr 1
       rw [←Array.foldl_toList,Array.toList_zipIdx]
       rw [Ed off V.cells.toList 0 Cs.toArray (by simp;omega)]
       have:V.cells.toList.length=v.cells.length:=e3
       simp [this]
end
end Go.VM
namespace Go.VM
section
variable {P:Program} {w0:Base} {ρ:Rho} {h:Heap} {w:World}
theorem a8{t:Nat}{d:TypeDesc}(hd:P.underlying t=some d):(underlying t).run P w=.ok d w:=by simp [underlying,hd]
def rR(ρ:Rho)(ps:List (Nat × AV))(Ps:List (Nat × Value)):Prop:=
 ps.length=Ps.length∧∀ i,(hi:i < ps.length)→(hi':i < Ps.length)→ps[i].1=Ps[i].1∧Rel ρ ps[i].2 Ps[i].2
theorem yM(fs:List Field)(hk:∀ f ∈ fs,∃ i,P.info? f.type=some i):
  (fs.mapM (fun f=>do pure (f.offset,←sizeOf f.type)):Sem (List (Nat × Nat))).run P w=.ok (fs.map fun f=>(f.offset,aU P f.type)) w:=by
 induction fs with
 | nil=>simp
 | cons f r ih=>
  obtain⟨i,hi⟩:=hk f (by simp)
  have:=ih (fun g hg=>hk g (by simp [hg]))
  simp only [List.mapM_cons,Sem.run_bind,ay hi,Result.andThen_ok,Sem.run_pure,this,List.map_cons,bj hi]
theorem F5(hs:Sim w0 ρ h w){c a b:AV}{C A B:Value}(hc:Rel ρ c C)(ha:Rel ρ a A)(hb:Rel ρ b B):
  ValOk P w0 ρ h w (do pure (if ←asBool C then A else B)) (zP c a b h):=by
 cases hc with
 | bool t=>
  cases t
  ·exact au hs (v:=b) (V:=B) hb (by simp [asBool])
  ·exact au hs (v:=a) (V:=A) ha (by simp [asBool])
 | _=>exact trivial
theorem yN(hs:Sim w0 ρ h w){v:AV}{V:Value}(hv:Rel ρ v V){i:Nat}:ValOk P w0 ρ h w (Instr.extract V i) (gW v i h):=by
 cases hv with
 | tup a A ha=>
  refine lJ fun x hx=>?_
  rw [vl,bB,List.head?_drop] at hx
  obtain⟨X,hX,hr⟩:=ha.get? i hx
  exact au hs hr (by simp [Instr.extract,hX])
 | _=>exact trivial
theorem mN{s f:Nat}{fd:Field}(hf:g6 P s f=some fd):∃ fs:Array Field,P.underlying s=some (.struct fs)∧fs[f]?=some fd:=by
 unfold g6 at hf
 cases hu:P.underlying s with
 | none=>simp [hu] at hf
 | some d=>
  cases d with
  | struct fs=>
   simp only [hu,vl,bB,List.head?_drop] at hf
   exact⟨fs,rfl,by simpa using hf⟩
  | _=>simp [hu] at hf
theorem uU(hs:Sim w0 ρ h w){s f:Nat}{v:AV}{V:Value}(hv:Rel ρ v V):ValOk P w0 ρ h w (Instr.fieldAt s V f) (ei P s f v h):=by
 cases hv with
 | ptr b off L hb=>
  refine aa (fun hok=>?_) (fun _=>trivial)
  rw [af]
  unfold nP at hok
  cases hf:g6 P s f with
  | none=>simp [hf] at hok
  | some fd=>
   obtain⟨fs,hu,hfs⟩:=mN hf
   simp only [hf] at hok
   have hne:aU P fd.type≠0:=by
    intro e;rw [e] at hok;simp at hok
   cases hi:P.info? fd.type with
   | none=>simp [aU,hi] at hne
   | some i=>
    rw [bj hi] at hne
    have ho:u9 P s f=fd.offset:=by simp [u9,hf]
    refine au hs (Rel.ptr b (off+u9 P s f) L hb) ?_
    have ha:(⟨L.B,L.base+off,none⟩:Addr).add fd.offset=⟨L.B,L.base+(off+fd.offset),none⟩:=by
     unfold Addr.add;split<;>simp_all [Nat.add_assoc]
    simp [Instr.fieldAt,a8 hu,hfs,Instr.sureAddr,fieldPlace,ay hi,hne,ha,ho]
 | _=>exact trivial
theorem qB{t off:Nat}{cs:List AV}{Cs:List Value}(hr:RelL ρ cs Cs){v:AV}(hv:jz P t off cs=some v):∃ V,Rel ρ v V∧(part t Cs.toArray off).run P w=.ok V w:=by
 unfold jz at hv
 cases hk:known P t with
 | false=>rw [hk] at hv;cases hv
 | true=>
  rw [hk] at hv
  simp only [cond_true,G8] at hv
  obtain⟨i,hi⟩:=df hk
  cases ha:bQ P t with
  | true=>
   rw [ha] at hv
   simp only [cond_true,aG,bU,bB] at hv
   cases hle:Nat.ble (off+aU P t) cs.length with
   | false=>rw [hle] at hv;cases hv
   | true=>
    rw [hle] at hv
    simp only [cond_true,Option.some.injEq] at hv
    subst hv
    have hl:=hr.length
    have hle':=Nat.le_of_ble_eq_true hle
    rw [bj hi] at hle' ⊢
    refine⟨.agg ((Cs.drop off).take i.size).toArray,.agg _ _ ((hr.drop off).take _),?_⟩
    simp only [part,Sem.run_bind,eT hk,ha,Result.andThen_ok,if_true,ay hi,Sem.run_pure]
    congr 2
    apply Array.ext_getElem?
    intro j
    simp [List.getElem?_take,List.getElem?_drop]
  | false=>
   rw [ha] at hv
   simp only [cond_false,vl,bB,List.head?_drop] at hv
   obtain⟨V,hV,r⟩:=hr.get? off hv
   refine⟨V,r,?_⟩
   simp [part,eT hk,ha,hV]
theorem Ee(hs:Sim w0 ρ h w){s f:Nat}{v:AV}{V:Value}(hv:Rel ρ v V):ValOk P w0 ρ h w (Instr.field s V f) (ua P s f v h):=by
 cases hv with
 | agg a A ha=>
  show ValOk P w0 ρ h w _ (match g6 P s f with | some fd=>okv (jz P fd.type fd.offset a) h "field" | none=>.bad "field")
  cases hf:g6 P s f with
  | none=>exact trivial
  | some fd=>
   obtain⟨fs,hu,hfs⟩:=mN hf
   refine lJ fun x hx=>?_
   obtain⟨X,hr,hrun⟩:=qB (P:=P) (w:=w) ha hx
   exact au hs hr (by simp [Instr.field,a8 hu,hfs,asAgg,hrun])
 | _=>exact trivial
end
end Go.VM
namespace Go.VM
theorem i7:∀ (n c i:Nat),i < n→(ac n c)[i]?=some (UInt8.ofNat (c / 256 ^ i))
 | 0,_,_,h=>by omega
 | n+1,c,0,_=>by simp [ac]
 | n+1,c,i+1,h=>by
  simp only [ac,List.getElem?_cons_succ]
  rw [i7 n (c / 256) i (by omega),Nat.div_div_eq_div_mul,Nat.pow_succ,Nat.mul_comm]
theorem qS(c i:Nat):Nat.mod (Nat.shiftRight c (8 * i)) 256=c / 256 ^ i % 256:=by
 show (c >>> (8 * i)) % 256=_
 rw [Nat.shiftRight_eq_div_pow,Nat.pow_mul]
section
variable {P:Program} {w0:Base} {ρ:Rho} {h:Heap} {w:World}
theorem cy{e:Nat}(hp:gU P e=true):∃ i,P.info? e=some i:=by
 cases hi:P.info? e with
 | none=>simp [gU,aU,hi] at hp
 | some i=>exact⟨i,rfl⟩
theorem eW(B base off n:Nat):(⟨B,base+off,none⟩:Addr).add n=⟨B,base+(off+n),none⟩:=by
 unfold Addr.add;split<;>simp_all [Nat.add_assoc]
theorem cb{a b:Nat}(h:Nat.blt a b=true):a < b:=by simpa [Nat.blt_eq] using h
theorem l9(hs:Sim w0 ρ h w){t:Nat}{v i:AV}{V I:Value}(hv:Rel ρ v V)(hi:Rel ρ i I):ValOk P w0 ρ h w (Instr.indexAt t V I) (cL P t v i h):=by
 cases hi with
 | int k n=>
  cases n with
  | negSucc n=>exact trivial
  | ofNat n=>
   have hslice:∀ (b:Key) (off len:Nat) (cap:ACap) (c:Nat) (L:Loc),ρ b=some L→
     ValOk P w0 ρ h w (Instr.indexAt t (.slice (some ⟨L.B,L.base+off,none⟩) len c) (.int k (Int.ofNat n))) (cL P t (.slice b off len cap) (.int k (Int.ofNat n)) h):=by
    intro b off len cap c L hb
    show ValOk P w0 ρ h w _ (cond (Nat.blt n len) (match P.underlying t with | some (.slice e)=>cond (gU P e) (ak (off+n * aU P e) (fun o=>.val (.ptr b o) h)) (.bad "indexAddr") | _=>.bad "indexAddr") (.bad "indexAddr bounds"))
    refine aa (fun hlt=>?_) (fun _=>trivial)
    have hlt':=cb hlt
    cases hu:P.underlying t with
    | none=>exact trivial
    | some d=>
     cases d with
     | slice e=>
      refine aa (fun hp=>?_) (fun _=>trivial)
      rw [af]
      obtain⟨i,hi⟩:=cy hp
      refine au hs (Rel.ptr b (off+n * aU P e) L hb) ?_
      have hn:(n:Int) < (len:Int):=by omega
      (simp [Instr.indexAt,asIntOf,a8 hu,ay hi,bj hi,eW];intro hge;omega)
     | _=>exact trivial
   cases hv with
   | ptr b off L hb=>
    show ValOk P w0 ρ h w _ (match P.underlying t with
     | some (.array m e)=>cond (and (gU P e) (Nat.blt n m)) (ak (off+n * aU P e) (fun o=>.val (.ptr b o) h)) (.bad "indexAddr bounds")
     | _=>.bad "indexAddr")
    cases hu:P.underlying t with
    | none=>exact trivial
    | some d=>
     cases d with
     | array m e=>
      refine aa (fun hlt=>?_) (fun _=>trivial)
      rw [Bool.and_eq_true] at hlt
      have hlt':=cb hlt.2
      rw [af]
      obtain⟨i,hi⟩:=cy hlt.1
      refine au hs (Rel.ptr b (off+n * aU P e) L hb) ?_
      have hn:(n:Int) < (m:Int):=by omega
      (simp [Instr.indexAt,asIntOf,a8 hu,Instr.sureAddr,ay hi,bj hi,eW];intro hge;omega)
     | _=>exact trivial
   | sliceIs b off len c L hb=>exact hslice b off len _ c L hb
   | sliceMore b off len c sz L hb _ _=>exact hslice b off len _ c L hb
   | _=>exact trivial
 | _=>exact trivial
theorem ve(hs:Sim w0 ρ h w){t:Nat}{v i:AV}{V I:Value}(hv:Rel ρ v V)(hi:Rel ρ i I)(ht:∀ l c,v=.str l c→P.underlying t=some .string):ValOk P w0 ρ h w (Instr.index t V I) (ub P t v i h):=by
 cases hi with
 | int k n=>
  cases n with
  | negSucc n=>exact trivial
  | ofNat n=>
   cases hv with
   | str l c hc=>
    have hu:=ht l c rfl
    refine aa (fun hlt=>?_) (fun _=>trivial)
    have hlt':=cb hlt
    rw [af,qS]
    refine au hs (Rel.int .u8 _) ?_
    have hg:=i7 l c n hlt'
    have hb:(strOf l c)[n]?=some (UInt8.ofNat (c / 256 ^ n)):=by
     have hsz:n < (strOf l c).size:=by show n < (ac l c).length;rw [aD];exact hlt'
     rw [getElem?_pos _ n hsz]
     have hlen:n < (ac l c).length:=by rw [aD];exact hlt'
     rw [List.getElem?_eq_getElem hlen] at hg
     exact hg
    simp [Instr.index,asIntOf,a8 hu,hb]
   | agg a A ha=>
    show ValOk P w0 ρ h w _ (match P.underlying t with
     | some (.array m e)=>cond (Nat.blt n m) (okv (jz P e (n * aU P e) a) h "index") (.bad "index bounds")
     | _=>.bad "index")
    cases hu:P.underlying t with
    | none=>exact trivial
    | some d=>
     cases d with
     | array m e=>
      refine aa (fun hlt=>?_) (fun _=>trivial)
      have hlt':=cb hlt
      refine lJ fun x hx=>?_
      obtain⟨X,hr,hrun⟩:=qB (P:=P) (w:=w) ha hx
      have hk:known P e=true:=by
       unfold jz at hx
       cases hk:known P e with
       | true=>rfl
       | false=>rw [hk] at hx;cases hx
      obtain⟨j,hj⟩:=df hk
      rw [bj hj] at hrun
      have hn:(n:Int) < (m:Int):=by omega
      exact au hs hr (by simp [Instr.index,asIntOf,a8 hu,ay hj,hrun];intro hge;omega)
     | _=>exact trivial
   | _=>exact trivial
 | _=>exact trivial
end
end Go.VM
namespace Go.VM
section
variable {P:Program} {w0:Base} {ρ:Rho} {h:Heap} {w:World}
theorem fH{α:Type}:∀ (s:Sem α) (a:α),aS P s=some a→s.run P w=.ok a w
 | .pure x,a,e=>by simp [aS] at e;subst e;rfl
 | .program k,a,e=>by simp only [aS] at e;exact fH (k P) a e
 | .mark _ k,a,e=>by simp only [aS] at e;exact fH k a e
 | .load _ _ _,_,e=>by simp [aS] at e
 | .store _ _ _ _,_,e=>by simp [aS] at e
 | .new _ _,_,e=>by simp [aS] at e
 | .shape _ _,_,e=>by simp [aS] at e
 | .freeze _ _ _,_,e=>by simp [aS] at e
 | .frozen _ _,_,e=>by simp [aS] at e
 | .getObj _ _,_,e=>by simp [aS] at e
 | .setObj _ _ _,_,e=>by simp [aS] at e
 | .choose _ _,_,e=>by simp [aS] at e
 | .sys _ _,_,e=>by simp [aS] at e
 | .halt _,_,e=>by simp [aS] at e
theorem wD(k:IntKind)(n:Int):intV k n h=.val (.int k n) h:=by simp [intV,jY]
theorem bY(b:Bool):boolV b h=.val (.bool b) h:=by cases b<;>rfl
theorem gA(hs:Sim w0 ρ h w){s:Sem Value}{why:String}:ValOk P w0 ρ h w s (scalV (aS P s) h why):=by
 cases e:aS P s with
 | none=>exact trivial
 | some V=>
  have hrun:=fH (w:=w) s V e
  cases V with
  | int k n=>simp only [scalV,wD];exact au hs (.int k n) hrun
  | bool b=>simp only [scalV,bY];exact au hs (.bool b) hrun
  | float k b=>simp only [scalV,af];exact au hs (.float k b) hrun
  | _=>exact trivial
theorem aX(a b:Int):bO a b=true ↔ a=b:=by
 cases a with
 | ofNat a=>cases b with
  | ofNat b=>simp only [bO,Nat.beq_eq];constructor<;>intro h<;>first | (rw [h]) | (exact Int.ofNat.inj h)
  | negSucc b=>simp [bO]
 | negSucc a=>cases b with
  | ofNat b=>simp [bO]
  | negSucc b=>simp only [bO,Nat.beq_eq];constructor<;>intro h<;>first | (rw [h]) | (exact Int.negSucc.inj h)
theorem qT(a b:Int):bO a b=(a == b):=by
 rw [Bool.eq_iff_iff,aX];simp
theorem jU(a b:Int):eH a b=true ↔ a < b:=by
 cases a with
 | ofNat a=>cases b with
  | ofNat b=>simp only [eH,Nat.blt_eq,Int.ofNat_eq_natCast];omega
  | negSucc b=>simp only [eH,Int.ofNat_eq_natCast];constructor<;>intro h<;>first | cases h | omega
 | negSucc a=>cases b with
  | ofNat b=>exact⟨fun _=>Int.lt_of_lt_of_le (Int.negSucc_lt_zero a) (Int.natCast_nonneg b),fun _=>rfl⟩
  | negSucc b=>simp only [eH,Nat.blt_eq];omega
theorem qU(a b:Int):eH a b=decide (a < b):=by
 rw [Bool.eq_iff_iff,jU];simp
end
end Go.VM
namespace Go.VM
section
variable {P:Program} {w0:Base} {ρ:Rho} {h:Heap} {w:World}
theorem ap{a b:IntKind}(e:Nat.beq (aj a) (aj b)=true):a=b:=by
 cases a<;>cases b<;>first | rfl | (simp [aj] at e)
theorem mu{n:Int}(hn:fY n=true):IntKind.i64.wrap n=n:=by
 have hb:-9223372036854775808≤n∧n≤9223372036854775807:=by
  cases n with
  | ofNat a=>simp only [fY,Nat.blt_eq] at hn;simp only [Int.ofNat_eq_natCast];omega
  | negSucc a=>simp only [fY,Nat.blt_eq] at hn;omega
 exact IntWalk.i64_in n (by omega)
theorem DJ(hs:Sim w0 ρ h w){op:BinOp}{t:Nat}{k k':IntKind}{a b:Int}:ValOk P w0 ρ h w (binOp op t (.int k a) (.int k' b)) (binInt P op t k a k' b h):=by
 have hS:ValOk P w0 ρ h w (binOp op t (.int k a) (.int k' b)) (bN P op t k a k' b h):=gA hs
 unfold binInt
 refine aa (fun hk=>?_) (fun _=>hS)
 have hkk:=ap hk
 subst hkk
 have hA:∀ r,(op=.add∧r=a+b∨op=.sub∧r=a - b)→ValOk P w0 ρ h w (binOp op t (.int k a) (.int k b)) (wp P op t k a k b h r):=by
  intro r hr
  cases k<;>first | exact hS | skip
  refine aa (fun hin=>?_) (fun _=>hS)
  rw [wD]
  have hw:=mu hin
  rcases hr with ⟨rfl,rfl⟩ | ⟨rfl,rfl⟩
  ·exact au hs (.int .i64 _) (by simp [binOp,Op.intArith,hw])
  ·exact au hs (.int .i64 _) (by simp [binOp,Op.intArith,hw])
 cases op<;>first
  | exact hA _ (.inl ⟨rfl,rfl⟩)
  | exact hA _ (.inr ⟨rfl,rfl⟩)
  | exact hS
  | (show ValOk P w0 ρ h w _ (boolV _ h);rw [bY];exact au hs (.bool _) (by simp [binOp,Op.intCmp,qT,qU];try (first | rfl | (rw [Bool.eq_iff_iff];simp) | omega)))
end
end Go.VM
namespace Go.VM
theorem dn:∀ (l:Nat) (m c d:Nat),c < 256 ^ l→ac (l+m) (c+256 ^ l * d)=ac l c++ac m d
 | 0,m,c,d,h=>by
  have:c=0:=by simpa using h
  subst this;simp [ac]
 | l+1,m,c,d,h=>by
  have e1:l+1+m=(l+m)+1:=by omega
  have hp:256 ^ (l+1) * d=256 * (256 ^ l * d):=by rw [Nat.pow_succ];simp [Nat.mul_comm,Nat.mul_left_comm]
  have e2:(c+256 ^ (l+1) * d) / 256=c / 256+256 ^ l * d:=by rw [hp];omega
  have e3:UInt8.ofNat (c+256 ^ (l+1) * d)=UInt8.ofNat c:=by
   rw [hp];apply UInt8.toNat_inj.1;simp
  have h':c / 256 < 256 ^ l:=by rw [Nat.pow_succ] at h;omega
  rw [e1]
  simp only [ac,e2,e3,List.cons_append,dn l m (c / 256) d h']
theorem ia:∀ (l c d:Nat),c < 256 ^ l→d < 256 ^ l→ac l c=ac l d→c=d
 | 0,c,d,hc,hd,_=>by simp at hc hd;omega
 | l+1,c,d,hc,hd,e=>by
  simp only [ac,List.cons.injEq] at e
  have h1:c % 256=d % 256:=by have:=congrArg UInt8.toNat e.1;simpa using this
  have h2:=ia l (c / 256) (d / 256) (by rw [Nat.pow_succ] at hc;omega) (by rw [Nat.pow_succ] at hd;omega) e.2
  omega
theorem lc:∀ (k l c:Nat),(ac (k+l) c).drop k=ac l (c / 256 ^ k)
 | 0,l,c=>by simp
 | k+1,l,c=>by
  rw [show k+1+l=(k+l)+1 by omega]
  simp only [ac,List.drop_succ_cons,lc k l (c / 256),Nat.div_div_eq_div_mul,Nat.pow_succ,Nat.mul_comm]
theorem gf:∀ (n l c:Nat),(ac (n+l) c).take n=ac n (c % 256 ^ n)
 | 0,l,c=>by simp [ac]
 | n+1,l,c=>by
  rw [show n+1+l=(n+l)+1 by omega]
  have e1:UInt8.ofNat (c % 256 ^ (n+1))=UInt8.ofNat c:=by
   apply UInt8.toNat_inj.1;simp [Nat.pow_succ,Nat.mod_mul_left_mod]
  have e2:c % 256 ^ (n+1) / 256=c / 256 % 256 ^ n:=by rw [Nat.pow_succ,Nat.mul_comm,Nat.mod_mul_right_div_self]
  simp only [ac,List.take_succ_cons,gf n l (c / 256),e1,e2]
end Go.VM
namespace Go.VM
theorem bw(l c:Nat):(strOf l c).toList=ac l c:=by rw [ByteArray.toList_eq];rfl
theorem aI(l c:Nat):(strOf l c).size=l:=by show (ac l c).length=l;exact aD l c
theorem wE{l m c d:Nat}(h:c < 256 ^ l):strOf l c++strOf m d=strOf (l+m) (c+256 ^ l * d):=by
 apply ByteArray.ext
 apply Array.ext'
 simp [strOf,dn l m c d h]
theorem As{l m c d:Nat}(hc:c < 256 ^ l)(hd:d < 256 ^ m):c+256 ^ l * d < 256 ^ (l+m):=by
 rw [Nat.pow_add]
 have:256 ^ l * (d+1)≤256 ^ l * 256 ^ m:=Nat.mul_le_mul_left _ hd
 rw [Nat.mul_add] at this
 omega
theorem Au(d l:Nat):Nat.shiftLeft d (8 * l)=256 ^ l * d:=by
 show d <<< (8 * l)=_
 rw [Nat.shiftLeft_eq,Nat.pow_mul,Nat.mul_comm]
theorem lF{l m c d:Nat}(hc:c < 256 ^ l)(hd:d < 256 ^ m):cond (Nat.beq l m) (Nat.beq c d) false=(ac l c == ac m d):=by
 rw [Bool.eq_iff_iff]
 cases hl:Nat.beq l m with
 | true=>
  have:=Nat.eq_of_beq_eq_true hl
  subst this
  simp only [cond_true,Nat.beq_eq,beq_iff_eq]
  exact⟨fun e=>by rw [e],fun e=>ia l c d hc hd e⟩
 | false=>
  simp only [cond_false,Bool.false_eq_true,beq_iff_eq,false_iff]
  intro e
  have:=congrArg List.length e
  rw [aD,aD] at this
  subst this
  simp at hl
end Go.VM
namespace Go.VM
theorem mv(m:Nat):Nat.beq (m+1) 0=false:=rfl
theorem yf(m:Nat):Nat.blt m m=false:=by rw [Bool.eq_false_iff];simp [Nat.blt_eq]
theorem ib:∀ (n l c m d:Nat),l+m < n→ci n l c m d=Op.bytesLess (ac l c) (ac m d)
 | 0,_,_,_,_,h=>by omega
 | n+1,l,c,m,d,h=>by
  cases m with
  | zero=>cases l<;>simp [ci,ac,Op.bytesLess]
  | succ m=>
   cases l with
   | zero=>simp [ci,ac,Op.bytesLess,mv]
   | succ l=>
    have ih:=ib n l (c / 256) m (d / 256) (by omega)
    simp only [ci,ac,Op.bytesLess,Nat.add_sub_cancel]
    rw [ih]
    have e1:(UInt8.ofNat c < UInt8.ofNat d) ↔ c % 256 < d % 256:=by rw [UInt8.lt_iff_toNat_lt];simp
    have e2:(UInt8.ofNat c=UInt8.ofNat d) ↔ c % 256=d % 256:=by rw [←UInt8.toNat_inj];simp
    have b1:decide (UInt8.ofNat c < UInt8.ofNat d)=Nat.blt (c % 256) (d % 256):=by rw [Bool.eq_iff_iff];simp [e1,Nat.blt_eq]
    rcases Nat.lt_trichotomy (c % 256) (d % 256) with hlt | heq | hgt
    ·have x1:Nat.blt (c % 256) (d % 256)=true:=by simpa [Nat.blt_eq] using hlt
     simp [x1,b1,mv]
    ·have x1:Nat.blt (c % 256) (d % 256)=false:=by rw [heq];exact yf _
     have x2:Nat.blt (d % 256) (c % 256)=false:=by rw [heq];exact yf _
     simp [x1,x2,e2.2 heq,mv]
    ·have x1:Nat.blt (c % 256) (d % 256)=false:=by rw [Bool.eq_false_iff];simp [Nat.blt_eq];omega
     have x2:Nat.blt (d % 256) (c % 256)=true:=by simpa [Nat.blt_eq] using hgt
     have x3:(UInt8.ofNat c == UInt8.ofNat d)=false:=by rw [beq_eq_false_iff_ne];intro e;have:=e2.1 e;omega
     simp [x1,x2,b1,x3,mv]
end Go.VM
namespace Go.VM
theorem uL{α:Type}:∀ s:Sem α,s.bind Sem.pure=s:=by
 intro s
 induction s with
 | pure a=>rfl
 | load m a k ih=>simp only [Sem.bind];congr;funext v;exact ih v
 | store m a v k ih=>simp only [Sem.bind,ih]
 | new o k ih=>simp only [Sem.bind];congr;funext v;exact ih v
 | shape o k ih=>simp only [Sem.bind];congr;funext v;exact ih v
 | freeze a n k ih=>simp only [Sem.bind,ih]
 | frozen a k ih=>simp only [Sem.bind];congr;funext v;exact ih v
 | getObj a k ih=>simp only [Sem.bind];congr;funext v;exact ih v
 | setObj r o k ih=>simp only [Sem.bind,ih]
 | choose a k ih=>simp only [Sem.bind];congr;funext v;exact ih v
 | sys a k ih=>simp only [Sem.bind];congr;funext v;exact ih v
 | program k ih=>simp only [Sem.bind];congr;funext v;exact ih v
 | mark m k ih=>simp only [Sem.bind,ih]
 | halt h=>rfl
theorem qV{α β γ:Type}(f:α→Sem β)(g:β→Sem γ):∀ s:Sem α,(s.bind f).bind g=s.bind (fun x=>(f x).bind g):=by
 intro s
 induction s with
 | pure a=>rfl
 | load m a k ih=>simp only [Sem.bind];congr;funext v;exact ih v
 | store m a v k ih=>simp only [Sem.bind,ih]
 | new o k ih=>simp only [Sem.bind];congr;funext v;exact ih v
 | shape o k ih=>simp only [Sem.bind];congr;funext v;exact ih v
 | freeze a n k ih=>simp only [Sem.bind,ih]
 | frozen a k ih=>simp only [Sem.bind];congr;funext v;exact ih v
 | getObj a k ih=>simp only [Sem.bind];congr;funext v;exact ih v
 | setObj r o k ih=>simp only [Sem.bind,ih]
 | choose a k ih=>simp only [Sem.bind];congr;funext v;exact ih v
 | sys a k ih=>simp only [Sem.bind];congr;funext v;exact ih v
 | program k ih=>simp only [Sem.bind];congr;funext v;exact ih v
 | mark m k ih=>simp only [Sem.bind,ih]
 | halt h=>rfl
instance:LawfulMonad Sem:=LawfulMonad.mk' Sem
 (id_map:=fun s=>uL s)
 (pure_bind:=fun _ _=>rfl)
 (bind_assoc:=fun s f g=>qV f g s)
structure TypesOk (P:Program):Prop where
theorem gB{P:Program}:∀ {fs:List Field},g5 P fs=true→∀ f ∈ fs,∃ i,P.info? f.type=some i
 | [],_,f,hf=>by cases hf
 | g::r,h,f,hf=>by
  unfold g5 at h
  cases hi:P.info? g.type with
  | none=>simp [hi] at h
  | some i=>
   simp only [hi,Option.isSome_some,cond_true] at h
   cases hf with
   | head=>exact⟨i,hi⟩
   | tail _ hf=>exact gB h f hf
section
variable {P:Program} {w0:Base} {ρ:Rho} {h:Heap} {w:World}
theorem Av(fs:Array Field)(hk:∀ f ∈ fs.toList,∃ i,P.info? f.type=some i):
  (fs.mapM (fun f=>do pure (f.offset,←sizeOf f.type)):Sem (Array (Nat × Nat))).run P w=.ok (fs.toList.map fun f=>(f.offset,aU P f.type)).toArray w:=by
 rw [Array.mapM_eq_mapM_toList]
 simp only [map_eq_pure_bind,Sem.run_bind,yM fs.toList hk,Result.andThen_ok,Sem.run_pure]
theorem DK(_hP:TypesOk P)(hs:Sim w0 ρ h w){t:Nat}{ps:List (Nat × AV)}{Ps:List (Nat × Value)}(hp:rR ρ ps Ps):
  ValOk P w0 ρ h w (Instr.build t Ps.toArray) (ph P t ps h):=by
 unfold ph
 cases hz:bK P t with
 | none=>exact trivial
 | some z=>
  obtain⟨Z,hrun,ho⟩:=cz (w:=w) hz
  have hr:=dw (cT ρ Z z ho) (iu ho)
  dsimp only
  cases hu:P.underlying t with
  | none=>exact trivial
  | some d=>
   cases d with
   | struct fs=>
    refine aa (fun hfk=>?_) (fun _=>trivial)
    refine lJ fun v hv=>?_
    simp only [Option.map_eq_some_iff] at hv
    obtain⟨r,hf,rfl⟩:=hv
    obtain⟨R,hR,hRr⟩:=wL hp.1 hp.2 hr hf
    refine au hs (.agg r R.toList hRr) ?_
    have hpl:(fun i=>((fs.toList.map fun f=>(f.offset,aU P f.type)).toArray)[i]?)=(fun i=>(hd (drop i fs.toList)).map fun f=>(f.offset,aU P f.type)):=by
     funext i
     simp [vl,bB,List.head?_drop]
    simp only [Instr.build,Sem.run_bind,hrun,Result.andThen_ok,a8 hu,Av fs (gB hfk)]
    rw [hpl]
    have:(Z.cells.toList.toArray)=Z.cells:=by simp
    rw [this] at hR
    rw [hR]
    rfl
   | array n e=>
    refine aa (fun hek=>?_) (fun _=>trivial)
    refine lJ fun v hv=>?_
    simp only [Option.map_eq_some_iff] at hv
    obtain⟨r,hf,rfl⟩:=hv
    obtain⟨R,hR,hRr⟩:=wL hp.1 hp.2 hr hf
    obtain⟨i,hi⟩:=Option.isSome_iff_exists.1 hek
    rw [bj hi] at hR
    refine au hs (.agg r R.toList hRr) ?_
    simp only [Instr.build,Sem.run_bind,hrun,Result.andThen_ok,a8 hu,ay hi]
    rw [show Z.cells.toList.toArray=Z.cells by simp] at hR
    rw [hR]
    rfl
   | _=>exact trivial
theorem Aw(zs:List AV):∀ n,(rep n zs).length=n * zs.length
 | 0=>by simp [rep]
 | n+1=>by simp [rep,aL,Aw zs n,Nat.succ_mul,Nat.add_comm]
theorem qW(Z:Array Value):∀ n,((Array.range (n * Z.size)).map (Z[· % Z.size]!))=(List.replicate n Z.toList).flatten.toArray:=by
 intro n
 by_cases hz:Z.size=0
 ·have:Z=#[]:=by simpa using hz
  subst this;simp
 apply Array.ext_getElem?
 intro j
 induction n generalizing j with
 | zero=>simp
 | succ n ih=>
  rw [List.replicate_succ,List.flatten_cons]
  by_cases hj:j < Z.size
  ·have h1:j < (n+1) * Z.size:=by rw [Nat.succ_mul];omega
   (simp [h1,Nat.mod_eq_of_lt hj,hj];rw [List.getElem?_append_left (by simpa using hj)];simp [hj])
  ·have h2:=ih (j - Z.size)
   have hm:j % Z.size=(j - Z.size) % Z.size:=Nat.mod_eq_sub_mod (by omega)
   simp only [List.getElem?_toArray,Array.getElem?_map] at h2 ⊢
   rw [List.getElem?_append_right (by simp;omega)]
   simp only [Array.length_toList]
   rw [←h2]
   by_cases hb:j < (n+1) * Z.size
   ·have h3:j - Z.size < n * Z.size:=by rw [Nat.succ_mul] at hb;omega
    simp [hb,h3,hm]
   ·have h3:¬ j - Z.size < n * Z.size:=by rw [Nat.succ_mul] at hb;omega
    simp [hb,h3]
theorem wF{zs:List AV}{Zs:List Value}(hr:RelL ρ zs Zs):∀ n,RelL ρ (rep n zs) (List.replicate n Zs).flatten
 | 0=>by simpa [rep] using RelL.nil
 | n+1=>by rw [rep,aL,List.replicate_succ,List.flatten_cons];exact hr.append (wF hr n)
theorem vg{e:Nat}{i:TypeInfo}{z:AV}(hz:bK P e=some z)(hi:P.info? e=some i)(hl:len z.cells=aU P e)(n:Nat):
  ∃ Cs:List Value,RelL ρ (rep n z.cells) Cs∧((n * i.size=0∧(Array.range (n * i.size)).map ((#[]:Array Value)[· % (#[]:Array Value).size]!)=Cs.toArray)∨
   (n * i.size≠0∧∃ Z:Value,(zeroValue e).run P w=.ok Z w∧(Array.range (n * i.size)).map (Z.cells[· % Z.cells.size]!)=Cs.toArray)):=by
 obtain⟨Z,hrun,ho⟩:=cz (w:=w) hz
 have hr:=dw (cT ρ Z z ho) (iu ho)
 have e1:Z.cells.size=i.size:=by have:=hr.length;rw [aG,bj hi] at hl;simp at this;omega
 refine⟨_,wF hr n,?_⟩
 by_cases h0:n * i.size=0
 ·refine .inl ⟨h0,?_⟩
  rw [h0]
  have:(List.replicate n Z.cells.toList).flatten=[]:=by
   apply List.eq_nil_of_length_eq_zero
   simp [e1,h0]
  rw [this];simp
 ·refine .inr ⟨h0,Z,hrun,?_⟩
  rw [←e1];exact qW Z.cells n
theorem qX(hs:Sim w0 ρ h w){t n:Nat}{ps:List (Nat × AV)}{Ps:List (Nat × Value)}(hp:rR ρ ps Ps):
  ValOk P w0 ρ h w (Instr.buildSlice t n Ps.toArray) (cJ P t n ps h):=by
 unfold cJ
 cases hu:P.underlying t with
 | none=>exact trivial
 | some d=>
  cases d with
  | slice e=>
   dsimp only
   cases hz:bK P e with
   | none=>exact trivial
   | some z=>
    dsimp only
    refine aa (fun hc=>?_) (fun _=>trivial)
    rw [Bool.and_eq_true] at hc
    have hl:=Nat.eq_of_beq_eq_true hc.1
    have hle:=Nat.le_of_ble_eq_true hc.2
    have hi:∃ i,P.info? e=some i:=by
     unfold bK at hz
     cases hi:P.info? e with
     | none=>simp [hi] at hz
     | some i=>exact⟨i,rfl⟩
    obtain⟨i,hi⟩:=hi
    obtain⟨Cs,hr,hzc⟩:=vg (ρ:=ρ) (w:=w) hz hi hl n
    rw [bj hi] at hle ⊢
    cases hf:qj (fun j=>some (j * i.size,i.size)) (rep n z.cells) ps with
    | none=>exact trivial
    | some cs=>
     obtain⟨R,hR,hRr⟩:=wL hp.1 hp.2 hr hf
     refine fM hs hRr (V:=.slice (some ⟨w.heap.size,0,none⟩) n n) ?_ (fun b=>?_)
     ·have hn:¬ n * i.size > 2 ^ 24:=by omega
      simp only [Instr.buildSlice,Sem.run_bind,a8 hu,Result.andThen_ok,ay hi,if_neg hn]
      rcases hzc with ⟨h0,hc0⟩ | ⟨h0,Z,hZ,hc0⟩
      ·simp only [if_pos h0,Sem.run_bind,Sem.run_pure,Result.andThen_ok]
       simp only [hc0,hR]
       simp [newRow]
      ·simp only [if_neg h0,Sem.run_bind,Sem.run_pure,Result.andThen_ok,hZ]
       simp only [hc0,hR]
       simp [newRow]
     ·exact Rel.sliceIs b 0 n n ⟨w.heap.size,0,_⟩ (Rho.add_same _ _ _)
  | _=>exact trivial
end
end Go.VM
namespace Go.VM
theorem eE:∀ (n c:Nat),az n c=(ac n c).map fun b=>AV.int .u8 (Int.ofNat b.toNat)
 | 0,_=>rfl
 | n+1,c=>by
  simp only [az,ac,List.map_cons,eE n]
  simp
theorem wO(n m c d:Nat)(h:c < pw n):az (n+m) (c+pw n * d)=az n c++az m d:=by
 unfold pw at h ⊢
 rw [eE,eE,eE,dn n m c d h,List.map_append]
theorem dE(n c:Nat):(az n c).length=n:=by rw [eE,List.length_map,aD]
theorem Bf(n:Nat):0 < pw n:=Nat.pow_pos (by decide)
theorem Jc{l m c d:Nat}(hc:c < pw l)(hd:d < pw m):c+pw l * d < pw (l+m):=As hc hd
theorem Jd(d l:Nat):Nat.shiftLeft d (8 * l)=pw l * d:=Au d l
theorem vK(t:RT Nat)(i:Nat):bW t i < pw 256:=by
 unfold bW Gb
 split
 ·exact Nat.mod_lt _ (Bf _)
 ·exact Bf _
theorem dg(t:RT Nat):∀ k,(ag t k).length=256 * k
 | 0=>rfl
 | k+1=>by rw [ag,aL,List.length_append,dg t k,dE];omega
theorem jc(t:RT Nat)(i:Nat):∀ k,i < k→(ag t k).drop (256 * i)=az 256 (bW t i)++(ag t k).drop (256 * (i+1))
 | 0,h=>by omega
 | k+1,h=>by
  rw [ag,aL]
  have hl:=dg t k
  rcases Nat.lt_or_eq_of_le (Nat.le_of_lt_succ h) with h' | h'
  ·rw [List.drop_append_of_le_length (by omega),List.drop_append_of_le_length (by omega),jc t i k h',List.append_assoc]
  ·subst h'
   have e1:((ag t i++az 256 (bW t i)).drop (256 * i))=az 256 (bW t i):=by
    rw [←hl];exact List.drop_left
   have e2:((ag t i++az 256 (bW t i)).drop (256 * (i+1)))=[]:=by
    refine List.drop_of_length_le ?_
    rw [List.length_append,dE,hl];omega
   rw [e1,e2,List.append_nil]
theorem pU(t:RT Nat)(k:Nat):∀ (m i:Nat),i+m≤k→bR t m i < pw (256 * m)∧((ag t k).drop (256 * i)).take (256 * m)=az (256 * m) (bR t m i)
 | 0,i,_=>⟨Bf _,rfl⟩
 | m+1,i,h=>by
  obtain⟨h1,h2⟩:=pU t k m (i+1) (by omega)
  have e:256 * (m+1)=256+256 * m:=by omega
  have hc:bR t (m+1) i=bW t i+pw 256 * bR t m (i+1):=by
   show bW t i+Nat.shiftLeft (bR t m (i+1)) (8 * 256)=_
   rw [Jd]
  refine⟨?_,?_⟩
  ·rw [hc,e];exact Jc (vK t i) h1
  ·rw [hc,e,wO _ _ _ _ (vK t i),jc t i k (by omega),←h2,List.take_append,dE,List.take_of_length_le (by rw [dE];omega),show 256+256 * m - 256=256 * m by omega]
theorem dF{a b:Nat}(ha:a < 8)(hb:b < 8)(h:D8.ofNat a=D8.ofNat b):a=b:=by
 have key:∀ n,n < 8→(D8.ofNat n).num=n:=by
  intro n hn
  match n,hn with
  | 0,_=>rfl
  | 1,_=>rfl
  | 2,_=>rfl
  | 3,_=>rfl
  | 4,_=>rfl
  | 5,_=>rfl
  | 6,_=>rfl
  | 7,_=>rfl
 rw [←key a ha,←key b hb,h]
theorem Fg{i j:Nat}(hi:i < 32768)(hj:j < 32768)(h:keyN i=keyN j):i=j:=by
 unfold keyN at h
 injection h with h1 h2 h3 h4 h5
 have h1:=dF (Nat.mod_lt _ (by decide)) (Nat.mod_lt _ (by decide)) h1
 have h2:=dF (Nat.mod_lt _ (by decide)) (Nat.mod_lt _ (by decide)) h2
 have h3:=dF (Nat.mod_lt _ (by decide)) (Nat.mod_lt _ (by decide)) h3
 have h4:=dF (Nat.mod_lt _ (by decide)) (Nat.mod_lt _ (by decide)) h4
 have h5:=dF (by omega) (by omega) h5
 omega
theorem dY(t:RT Nat)(c i j:Nat)(hi:i < 32768)(hj:j < 32768)(hc:c < pw 256):bW (t.set c (keyN i)) j=if i=j then c else bW t j:=by
 unfold bW
 by_cases h:i=j
 ·subst h
  rw [RT.get_set_same,if_pos rfl]
  exact Nat.mod_eq_of_lt hc
 ·rw [RT.get_set_other _ _ _ _ (fun e=>h (Fg hi hj e)),if_neg h]
theorem ll(t:RT Nat)(c i:Nat)(hc:c < pw 256):∀ k,i < k→k≤32768→(ag t k).take (256 * i)++(az 256 c++(ag t k).drop (256 * i+256))=ag (t.set c (keyN i)) k
 | 0,h,_=>by omega
 | k+1,h,hk=>by
  have hl:=dg t k
  have same:∀ n,n≤i→ag (t.set c (keyN i)) n=ag t n:=by
   intro n
   induction n with
   | zero=>intro _;rfl
   | succ n ih=>
    intro hn
    rw [ag,ag,ih (by omega),dY t c i n (by omega) (by omega) hc,if_neg (by omega)]
  rcases Nat.lt_or_eq_of_le (Nat.le_of_lt_succ h) with h' | h'
  ·have ih:=ll t c i hc k h' (by omega)
   rw [ag,ag,aL,aL,←ih,dY t c i k (by omega) (by omega) hc,if_neg (by omega),List.take_append_of_le_length (by omega),List.drop_append_of_le_length (by omega)]
   simp [List.append_assoc]
  ·subst h'
   rw [ag,ag,aL,aL,same i (Nat.le_refl _),dY t c i i (by omega) (by omega) hc,if_pos rfl,List.take_append_of_le_length (by omega),List.take_of_length_le (by omega),List.drop_of_length_le (by rw [List.length_append,dE];omega),List.append_nil]
theorem lm:∀ k,ag RT.nil k=rep (256 * k) [AV.int .u8 0]
 | 0=>rfl
 | k+1=>by
  have h0:bW RT.nil k=0:=by unfold bW;rw [RT.get_nil];rfl
  have hz:∀ n,az n 0=rep n [AV.int .u8 0]:=by
   intro n
   induction n with
   | zero=>rfl
   | succ n ih=>show AV.int .u8 0::az n (0 / 256)=AV.int .u8 0::rep n [AV.int .u8 0];rw [Nat.zero_div,ih]
  have hr:∀ a b,rep (a+b) [AV.int .u8 0]=rep a [AV.int .u8 0]++rep b [AV.int .u8 0]:=by
   intro a b
   induction a with
   | zero=>simp [rep]
   | succ a ih=>rw [Nat.succ_add];show AV.int .u8 0::rep (a+b) _=AV.int .u8 0::_;rw [ih];rfl
  rw [ag,aL,lm k,h0,hz,show 256 * (k+1)=256 * k+256 by omega,hr]
section
variable {P:Program} {w0:Base} {ρ:Rho} {h:Heap} {w:World}
theorem Sim.swap(hs:Sim w0 ρ h w){b:Key}{o o':AObj}(hg:h.get b=some o)(ho:∀ (L:Loc) (O:Option Obj),ObjRel w0.F ρ L O o→ObjRel w0.F ρ L O o')(hl:o'.live=true→o.live=true):Sim w0 ρ (h.put b o') w:=by
 refine⟨hs.os,hs.out,hs.size,hs.old,hs.sub,fun b' L e=>?_,fun b1 b2 L1 L2 o1 o2 e1 e2 g1 g2 l1 l2 hB=>?_⟩
 ·obtain⟨x,gx,hlt,hr⟩:=hs.obj b' L e
  by_cases hb:b=b'
  ·subst hb
   rw [hg] at gx;injection gx with gx;subst gx
   exact⟨o',Heap.get_put_same h b o',hlt,ho _ _ hr⟩
  ·exact⟨x,by rw [Heap.get_put_other h b b' o' hb];exact gx,hlt,hr⟩
 ·have old:∀ b3 o3,(h.put b o').get b3=some o3→o3.live=true→∃ o4,h.get b3=some o4∧o4.live=true:=by
   intro b3 o3 g l
   by_cases hb:b=b3
   ·subst hb
    rw [Heap.get_put_same] at g;injection g with g;subst g
    exact⟨o,hg,hl l⟩
   ·rw [Heap.get_put_other h b b3 o' hb] at g;exact⟨o3,g,l⟩
  obtain⟨o3,g3,l3⟩:=old b1 o1 g1 l1
  obtain⟨o4,g4,l4⟩:=old b2 o2 g2 l2
  exact hs.inj b1 b2 L1 L2 o3 o4 e1 e2 g3 g4 l3 l4 hB
theorem Sim.unpack(hs:Sim w0 ρ h w){b:Key}{e k:Nat}{t:RT Nat}(hg:h.get b=some (.pack e k t)):Sim w0 ρ (h.put b (.cells e (ag t k) false 0)) w:=
 hs.swap hg (fun _ _ hr=>hr) (fun _=>rfl)
theorem Sim.repack(hs:Sim w0 ρ h w){b:Key}{e k:Nat}{t:RT Nat}{cs:List AV}(hg:h.get b=some (.cells e cs false 0))(hcs:cs=ag t k):Sim w0 ρ (h.put b (.pack e k t)) w:=by
 subst hcs
 exact hs.swap hg (fun _ _ hr=>hr) (fun _=>rfl)
end
end Go.VM
