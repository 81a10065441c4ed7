/- An evaluator of the model's code (a machine on abstract values), and that it follows the model's, first part. No conditions: a library text of the proof. -/
import Derived.Test.YtooelpaaidnhiaaGreatDoorVC
import Derived.Orders
noncomputable section
namespace Go.VM
inductive PStep where
 | op (i:Nat) | chk (i:Nat)
inductive AItem where
 | code (c:Code) | inBlock (id:Nat) | inLoop (c:Code) | inScope (c:Code)
 | ops (all:List Oper) (rest:List Oper)
 | dops (all:List Oper) (plan:List PStep)
 | inRange (l:Key) | endRange (l:Key) | beginRound
inductive FK where
 | normal | deferred | round (l:Key)
inductive AMode where
 | run | returning | panicking (chain:List (AV × Bool))
inductive AFrame where
 | mk (fn:Nat) (T:Slots) (k:List AItem) (ds:List ADef) (m:AMode) (fk:FK)
inductive Ctx where
 | mk (fn:Nat) (ds:List ADef) (fk:FK) (cs:List AFrame)
inductive St where
 | go (T:Slots) (k:List AItem) (c:Ctx) (h:Heap)
 | un (m:AMode) (T:Slots) (c:Ctx) (h:Heap)
 | done (v:AV) (h:Heap)
 | alt (l:List (AV × Heap)) (T:Slots) (k:List AItem) (c:Ctx)
 | bad (why:String)
structure Row where
 args:List AV
 val:AV
 objs:List (Key × AObj)
class Hook where
 sums:Nat→Nat
 exts:Nat→Nat
 tab:Nat→List AV→List Row
 prim:Nat→List AV→Heap→Option (AV × Heap)
def noPrim(_:Nat)(_:List AV)(_:Heap):Option (AV × Heap):=none
def bJ[H:Hook](f:Nat):Nat:=H.sums f
def eB[H:Hook](f:Nat):Nat:=H.exts f
section
variable (P:Program)
def gY(args:List AV):ST→Nat→ST:=List.rec (motive:=fun _=>ST→Nat→ST) (fun T _=>T) (fun v _ ih T i=>ih (T.set v (keyOf i)) (Nat.succ i)) args
def jN(f:Nat):Option Func:=match P.funcs[f]? with
 | some fn=>if fn.name == "runtime.NumGoroutine" then none else some fn
 | none=>none
def bodyOf(f:Nat):Option Code:=(jN P f).bind (·.body)
def cY(f:Nat):Nat:=((jN P f).map (·.ntmps)).getD 0
def gZ(f:Nat):List ResultVar:=((jN P f).map (·.results.toList)).getD []
def enter(f:Nat)(args:List AV)(dfr:FK)(cs:List AFrame)(h:Heap)(c:Code):St:=
 cond (Nat.ble (len args) (cY P f)) (.go (.mk (cY P f) (gY args .nil 0)) [.code c] (.mk f [] dfr cs) h) (.bad "enter")
def o7(id:Nat)(k:List AItem):Option (List AItem):=List.rec (motive:=fun _=>Option (List AItem)) none
 (fun it r ih=>AItem.casesOn (motive:=fun _=>Option (List AItem)) it (fun _=>ih) (fun i=>cond (Nat.beq i id) (some r) ih) (fun _=>ih) (fun _=>ih) (fun _ _=>ih) (fun _ _=>ih) (fun _=>ih) (fun _=>ih) ih) k
def dp(l:Nat):List AItem→Option (List AItem)
 | .inScope body::k=>match findLabel body l with
  | some r=>some (.code r::.inScope body::k)
  | none=>dp l k
 | _::k=>dp l k
 | []=>none
def Kj(n:Nat)(t:ST)(d:Nat)(v:AV)(k:Slots→St):St:=cond (Nat.blt d n) (k (.mk n (t.set v (keyOf d)))) (.bad "slot")
def hG(T:Slots)(d:Option Nat)(v:AV)(k:Slots→St):St:=Option.rec (motive:=fun _=>St) (k T) (fun d=>Slots.rec (motive:=fun _=>St) (fun n t=>Kj n t d v k) T) d
def iP(all:List Oper)(i:Nat):Option Oper:=hd (drop i all)
def hI(all:List Oper)(i:Nat):Option Nat:=(iP all i).bind (·.dst)
def finish(c:AFrame)(v:AV)(cs:List AFrame)(h:Heap):St:=match c with
 | .mk fn T k ds _ dfr=>(match k with
  | .ops all (o::rest)::k=>hG T o.dst v (fun T=>.go T (.ops all rest::k) (.mk fn ds dfr cs) h)
  | .dops all (.op i::plan)::k=>hG T (hI all i) v (fun T=>.go T (.dops all plan::k) (.mk fn ds dfr cs) h)
  | .inRange l::k=>.go T (.endRange l::k) (.mk fn ds dfr cs) h
  | _=>.bad "finish")
def c5(h:Heap)(T:Slots):List ResultVar→Option (List AV)
 | []=>some []
 | .tmp t::rs=>(match c5 h T rs with
  | some vs=>some (T.get t::vs)
  | _=>none)
 | .cell a t::rs=>(match T.get a with
  | .ptr b off=>(match (cond (bQ P t) ((aW h b off (aU P t)).map .agg) (cond (known P t) (fv h b off) none)),c5 h T rs with
   | some v,some vs=>some (v::vs)
   | _,_=>none)
  | _=>none)
def mg(v:AV)(b:Bool):Option Bool:=match v with
 | .bool x=>some (x == b)
 | .undef=>some false
 | _=>none
def bd(g:Option (Nat × Bool))(all:List Oper)(T:Slots):Option Bool:=Option.rec (motive:=fun _=>Option Bool) (some true)
 (fun g=>Option.rec (motive:=fun _=>Option Bool) none (fun d=>mg (T.get d) g.2) (hI all g.1)) g
def mh:Nat→Nat→Nat→Nat→Nat
 | 0,_,_,_=>0
 | n+1,c,k,i=>cond (Nat.beq (Nat.mod k 256) c) (i+1) (mh n c (k / 256) (i+1))
def o8:Nat→Nat→Nat→Nat→Nat
 | 0,_,_,a=>a
 | n+1,c,k,a=>o8 n c (k / 256) (cond (Nat.beq (Nat.mod k 256) c) (a+1) a)
def Dj(n:Nat):AV:=match n with
 | 0=>.int .i64 (-1)
 | n+1=>.int .i64 (Int.ofNat n)
def GA(n:Nat):AV:=match n with
 | 0=>.bool false
 | _+1=>.bool true
def GC(e:Option TypeDesc)(n:Nat)(h:Heap):Res:=match e with
 | some (.slice e)=>cond (Nat.ble n 1000000) (h.alloc (.cells e (rep n [.junk]) true 0) (fun b h=>.val (.slice b 0 n (.more 1)) h)) (.bad "MakeNoZero")
 | _=>.bad "MakeNoZero"
def Dk(ts:List Nat)(n:Nat)(h:Heap):Res:=match ts with
 | [t]=>GC (P.underlying t) n h
 | _=>.bad "MakeNoZero"
def zX(t:Nat)(m:Key)(h:Heap):Res:=match h.get m with
 | some (.map es clock)=>h.alloc (.map es clock) (fun b h=>.val (.iface t (.map b)) h)
 | _=>.bad "maps.clone"
def dO(k:Nat)(fd:Func)(args:List AV)(h:Heap):Res:=match k with
 | 1=>(match args with
  | [.float .f64 b]=>.val (.int .u64 (Int.ofNat b)) h
  | _=>.bad "Float64bits")
 | 2=>(match args with
  | [.int .u64 (.ofNat b)]=>.val (.float .f64 b) h
  | _=>.bad "Float64frombits")
 | 3=>(match args with | [x]=>.val x h | _=>.bad "NoEscape")
 | 4=>(match args with
  | [.str l c,.int .u8 (.ofNat b)]=>cond (Nat.blt b 256) (ak (mh l b c 0) (fun n=>.val (Dj n) h)) (.bad "IndexByteString")
  | _=>.bad "IndexByteString")
 | 5=>(match args with
  | [.int .i64 (.ofNat n)]=>Dk P fd.resultTypes.toList n h
  | _=>.bad "MakeNoZero")
 | 6=>(match args with
  | [.float .f64 b]=>scalV (aS P (Extern.MathFloor.toIntegral "math.archTrunc" .zero #[.float .f64 b])) h "archTrunc"
  | _=>.bad "archTrunc")
 | 7=>(match args with
  | [.iface t (.map m)]=>zX t m h
  | _=>.bad "maps.clone")
 | 8=>(match args with
  | [.str l c,.int .u8 (.ofNat b)]=>cond (Nat.blt b 256) (ak (o8 l b c 0) (fun n=>.val (.int .i64 (Int.ofNat n)) h)) (.bad "CountString")
  | _=>.bad "CountString")
 | _=>.bad "entry"
def extL(k:Nat)(fd:Func)(args:List AV)(h:Heap)(r:Res):Res:=match r with
 | .bad w=>cond (Nat.beq k 4) (jM (fun vs h=>dO P 4 fd vs h) args h w) (.bad w)
 | r=>r
def I6[Hook](f:Nat)(fd:Func)(args:List AV)(h:Heap):Res:=extL P (eB f) fd args h (dO P (eB f) fd args h)
def mi(fr:AFrame)(cs:List AFrame)(h:Heap):St:=match cs with
  | .mk fn T k ds m fk'::cs=>(match m with
   | .panicking ((v,false)::older)=>finish fr v (.mk fn T k ds (.panicking ((v,true)::older)) fk'::cs) h
   | m=>finish fr .nilIface (.mk fn T k ds m fk'::cs) h)
  | []=>.bad "recover"
def EF(fr:AFrame)(fk:FK)(cs:List AFrame)(h:Heap):St:=match fk with
 | .normal=>finish fr .nilIface cs h
 | .deferred=>mi fr cs h
 | .round _=>.bad "recover in a round"
def o9[Hook](f:Nat)(args:List AV)(fr:AFrame)(cs:List AFrame)(h:Heap):St:=match jN P f with
 | some fd=>(match I6 P f fd args h with
  | .val v h=>finish fr v cs h
  | .bad w=>.bad w
  | _=>.bad "entry")
 | none=>.bad "entry"
def lB:Nat→Nat→Nat→Nat→Nat→Nat
 | 0,sl,_,_,i=>cond (Nat.beq sl 0) (i+1) 0
 | n+1,sl,sc,k,i=>cond (Nat.blt (n+1) sl) 0 (cond (Nat.beq (Nat.mod k (2 ^ (8 * sl))) sc) (i+1) (lB n sl sc (k / 256) (i+1)))
def zY(v:Nat→AV)(args:List AV)(h:Heap):Option (AV × Heap):=match args with
 | [.str l c,.str sl sc]=>cond (Nat.ble l 1000000) (ak (lB l sl sc c 0) (fun n=>some (v n,h))) none
 | _=>none
def gt(x y:AV):Bool:=match x,y with
 | .str l a,.str m b=>and (Nat.beq l m) (Nat.beq a b)
 | .int k a,.int k' b=>and (Nat.beq (aj k) (aj k')) (bO a b)
 | .bool true,.bool true=>true
 | .bool false,.bool false=>true
 | _,_=>false
def iQ:List AV→List AV→Bool
 | [],[]=>true
 | a::x,b::y=>cond (gt a b) (iQ x y) false
 | _,_=>false
def c8(args:List AV):List Row→Option Row
 | []=>none
 | p::r=>cond (iQ p.args args) (some p) (c8 args r)
def eP(h:Heap):List (Key × AObj)→Bool
 | []=>true
 | p::r=>match h.get p.1 with
  | some _=>false
  | none=>eP h r
def bp:List (Key × AObj)→Heap→Heap
 | [],h=>h
 | p::r,h=>bp r (h.put p.1 p.2)
def wu(t:List Row)(args:List AV)(h:Heap):Option (AV × Heap):=match c8 args t with
 | some r=>cond (eP h r.objs) (some (r.val,bp r.objs h)) none
 | none=>none
def xL(x y:Option (AV × Heap)):Option (AV × Heap):=match x with
 | some p=>some p
 | none=>y
def sumA[H:Hook](k:Nat)(args:List AV)(h:Heap):Option (AV × Heap):=match k with
 | 1=>zY Dj args h
 | 2=>zY GA args h
 | 3=>(match args with | []=>some (.bool true,h) | _=>none)
 | 0=>none
 | k+4=>xL (wu (H.tab k args) args h) (H.prim k args h)
def oc[Hook](f:Nat)(args:List AV)(fr:AFrame)(cs:List AFrame)(h:Heap):St:=Option.rec (motive:=fun _=>St)
 (o9 P f args fr cs h) (enter P f args .normal (fr::cs) h) (bodyOf P f)
def jO[Hook](f:Nat)(args:List AV)(fr:AFrame)(cs:List AFrame)(h:Heap)(x:Option (AV × Heap)):St:=match x with
 | some (v,h')=>finish fr v cs h'
 | none=>oc P f args fr cs h
def Jr[Hook](k f:Nat)(args:List AV)(fr:AFrame)(cs:List AFrame)(h:Heap):St:=match k with
 | 0=>oc P f args fr cs h
 | k+1=>jO P f args fr cs h (sumA (k+1) args h)
def dP[Hook](f:Nat)(args:List AV)(fr:AFrame)(cs:List AFrame)(h:Heap):St:=Jr P (bJ f) f args fr cs h
def GD(T:Slots)(k:List AItem)(c:Ctx)(j:AFrame→List AFrame→FK→St):St:=Ctx.rec (motive:=fun _=>St) (fun fn ds dfr cs=>j (.mk fn T k ds .run dfr) cs dfr) c
def GE[Hook](f:Nat)(args:List AV)(h:Heap)(T:Slots)(k:List AItem)(c:Ctx):St:=GD T k c (fun fr cs _=>dP P f args fr cs h)
def zZ(h:Heap)(T:Slots)(k:List AItem)(c:Ctx):St:=GD T k c (fun fr cs dfr=>EF fr dfr cs h)
def po:List Oper→ST→ST
 | [],t=>t
 | o::r,t=>po r (match o.dst with | some d=>t.set .junk (keyOf d) | none=>t)
def scrub(k:List AItem)(T:Slots):Slots:=match k,T with
 | .dops all _::_,.mk n t=>.mk n (po all t)
 | _,T=>T
def od(c:Ctx)(s:St):St:=match c with
 | .mk _ _ fk _=>(match fk with | .round _=>.bad "in a round" | _=>s)
def Kk(v:AV)(h:Heap)(T:Slots)(k:List AItem)(c:Ctx):St:=od c (.un (.panicking [(v,false)]) (scrub k T) c h)
def Ll(w:String)(_:Slots)(_:List AItem)(_:Ctx):St:=.bad w
def GF(d:ADef)(h:Heap)(T:Slots)(k:List AItem)(c:Ctx):St:=od c (GD T k c (fun fr cs _=>match fr with
 | .mk fn T k ds m dfr=>finish (.mk fn T k (d::ds) m dfr) .undef cs h))
def jP:List Nat→List AV→Slots→Option Slots
 | [],[],T=>some T
 | t::ts,v::vs,.mk n r=>cond (Nat.blt t n) (jP ts vs (.mk n (r.set v (keyOf t)))) none
 | _,_,_=>none
def mj(l:Key)(args:List AV)(fr:AFrame)(cs:List AFrame)(h:Heap):St:=match h.get l with
 | some (.loop _ _ fn tm ps a b _)=>(match jP ps args tm,jN P fn with
  | some T,some _=>.go T [.code a,.beginRound,.code b] (.mk fn [] (.round l) (fr::cs)) h
  | _,_=>.bad "yield")
 | _=>.bad "yield"
def GG(l:Key)(args:List AV)(h:Heap)(T:Slots)(k:List AItem)(c:Ctx):St:=GD T k c (fun fr cs _=>mj P l args fr cs h)
def EG[Hook](r:Res)(T:Slots)(k:List AItem)(c:Ctx)(next:AV→Heap→St):St:=
 Res.casesOn (motive:=fun _=>St) r next
  (fun f args h=>GE P f args h T k c) (fun l args h=>GG P l args h T k c) (fun d h=>GF d h T k c) (fun h=>zZ h T k c) (fun v h=>Kk v h T k c) (fun l=>.alt l T k c) (fun w=>Ll w T k c)
def Dl[Hook](o:Oper)(it:AItem)(k:List AItem)(c:Ctx)(Tm T:Slots)(h:Heap)(ih:Slots→Heap→St)(g:Option Bool):St:=
 Option.rec (motive:=fun _=>St) (.bad "guard") (fun g=>Bool.rec (motive:=fun _=>St) (hG T o.dst .undef (fun T=>ih T h)) (EG P (gX P o.op Tm h) T (it::k) c (fun v h=>hG T o.dst v (fun T=>ih T h))) g) g
def gc[Hook](all:List Oper)(k:List AItem)(c:Ctx)(rest:List Oper):Slots→Heap→St:=
 List.rec (motive:=fun _=>Slots→Heap→St) (fun T h=>.go T k c h) (fun o rest ih T h=>Dl P o (.ops all (o::rest)) k c T T h ih (bd o.guard all T)) rest
def ml(rc:AV→AV→Bool):List AV→List AV→Bool
  | [],[]=>true
  | a::x,b::y=>and (rc a b) (ml rc x y)
  | _,_=>false
def uu:ACap→ACap→Bool
 | .is x,.is y=>Nat.beq x y
 | .more x,.more y=>Nat.beq x y
 | _,_=>false
def fA:Nat→AV→AV→Bool
 | 0,_,_=>false
 | d+1,x,y=>match x with
  | .bool a=>(match y with | .bool b=>a == b | _=>false)
  | .int k a=>(match y with | .int k' b=>and (Nat.beq (aj k) (aj k')) (bO a b) | _=>false)
  | .float .f64 a=>(match y with | .float .f64 b=>Nat.beq a b | _=>false)
  | .str l a=>(match y with | .str m b=>and (Nat.beq l m) (Nat.beq a b) | _=>false)
  | .nilPtr=>(match y with | .nilPtr=>true | _=>false)
  | .ptr a o=>(match y with | .ptr b q=>and (Key.same a b) (Nat.beq o q) | _=>false)
  | .nilSlice=>(match y with | .nilSlice=>true | _=>false)
  | .slice a o l c=>(match y with | .slice b q m e=>and (and (Key.same a b) (Nat.beq o q)) (and (Nat.beq l m) (uu c e)) | _=>false)
  | .nilMap=>(match y with | .nilMap=>true | _=>false)
  | .map a=>(match y with | .map b=>Key.same a b | _=>false)
  | .nilFunc=>(match y with | .nilFunc=>true | _=>false)
  | .nilIface=>(match y with | .nilIface=>true | _=>false)
  | .iface t a=>(match y with | .iface u b=>and (Nat.beq t u) (fA d a b) | _=>false)
  | .func (.func f) a b=>(match y with | .func (.func g) x y=>and (Nat.beq f g) (and (ml (fA d) a x) (ml (fA d) b y)) | _=>false)
  | .agg a=>(match y with | .agg b=>ml (fA d) a b | _=>false)
  | .tup a=>(match y with | .tup b=>ml (fA d) a b | _=>false)
  | .undef=>(match y with | .undef=>true | _=>false)
  | .junk=>(match y with | .junk=>true | _=>false)
  | .tab a ds xs=>(match y with | .tab b es ys=>and (Key.same a b) (and (ds == es) (ml (fA d) xs ys)) | _=>false)
  | .ustr l=>(match y with | .ustr m=>Nat.beq l m | _=>false)
  | .nan=>(match y with | .nan=>true | _=>false)
  | .rng a b=>(match y with | .rng c d=>and (Nat.beq a c) (Nat.beq b d) | _=>false)
  | _=>false
def bL(o:Op):Bool:=match o with
 | .alloc _ | .box .. | .makeMap .. | .buildSlice .. | .makeSlice ..=>true
 | _=>false
def mm(o:Op):Bool:=match o with   -- neither only reckons nor only reads nor only makes
 | .alloc _ | .box .. | .makeMap .. | .buildSlice .. | .makeSlice ..=>false
 | .move _ | .pick .. | .build .. | .fieldAddr .. | .field .. | .unOp .. | .makeInterface .. | .makeFunc .. | .extract .. | .nilCheck _ | .index .. | .indexAddr .. | .slice .. | .typeAssert ..=>false
 | .binOp op t ..=>nD P op t
 | .convert src dst _=>(match P.underlying src,P.underlying dst with | _,some (.slice _)=>true | _,_=>false)
 | .load .. | .lookup ..=>false
 | .call { callee:=.builtin .len,.. }=>false
 | .call { callee:=.builtin .min,.. } | .call { callee:=.builtin .max,.. } | .call { callee:=.builtin .cap,.. }=>false
 | _=>true
def uv(e:Edge):Bool:=match e.ground with | .textOnly _ | .gcOnly _=>false | _=>true
def pp:List Edge→List Nat
 | []=>[]
 | e::r=>cond (uv e) (e.on::pp r) (pp r)
def ah(o:Oper):List Nat:=pp o.after.toList
def aw(i:Nat):List Nat→Bool
 | []=>false
 | j::r=>cond (Nat.beq i j) true (aw i r)
def I7(i:Nat)(l:List Nat):List Nat:=cond (aw i l) l (i::l)
def xM:List Nat→List Nat→List Nat
 | [],l=>l
 | i::r,l=>I7 i (xM r l)
def qo(acc:List (List Nat)):List Nat→List Nat
 | []=>[]
 | j::r=>I7 j (xM (acc.getD j []) (qo acc r))
def ep:List Oper→List (List Nat)→List (List Nat)   -- the ancestors,op by op
 | [],acc=>acc
 | o::r,acc=>ep r (cat acc [qo acc (ah o)])
def jQ(l A:List Nat):Bool:=match l with
 | []=>true
 | i::r=>cond (aw i A) (jQ r A) false
def mn:Nat→List Nat
 | 0=>[]
 | n+1=>n::mn n
def dQ(l A:List Nat):List Nat:=match l with
 | []=>[]
 | i::r=>cond (aw i A) (dQ r A) (i::dQ r A)
def uw(all:List Oper)(i:Nat):Bool:=cond (Nat.beq (i+1) all.length) (match all[i]? with | some o=>cond (bL o.op) false (jQ (mn i) (ah o)) | none=>false) false
def b8(all:List Oper):List Nat:=match all.length with
 | 0=>[]
 | n+1=>cond (uw all n) [n] []
def cP(all:List Oper)(i:Nat):Bool:=match all[i]? with | some o=>or (mm P o.op) (uw all i) | none=>true
def fB(all:List Oper)(i:Nat):Bool:=match all[i]? with | some o=>bL o.op | none=>false
def fC(an:List (List Nat))(i:Nat):List Nat:=an.getD i []
def cZ(an:List (List Nat))(i:Nat):List Nat→Bool
 | []=>true
 | x::r=>cond (cond (Nat.beq x i) true (aw i (fC an x))) (cZ an i r) false
def d9:List PStep→List Nat
 | .chk j::r=>j::d9 r
 | _=>[]
def asked(all:List Oper)(an:List Nat)(ch:List Nat):List Nat→Bool
 | []=>true
 | j::r=>cond (cond (or (cP P all j) (fB all j)) true (cond (aw j an) true (aw j ch))) (asked all an ch r) false
def dc(all:List Oper)(an:List (List Nat)):List Nat→List PStep→Bool
 | A,[]=>jQ (mn all.length) A
 | A,.chk j::r=>cond (fB all j) false (dc all an A r)
 | A,.op i::r=>match all[i]? with
  | none=>false
  | some o=>cond (and (not (aw i A)) (jQ (ah o) A)) (cond (cond (cP P all i) (and (cZ an i (dQ (mn all.length) A)) (asked P all (fC an i) (d9 r) A)) (cond (bL o.op) (asked P all [] (d9 r) A) true)) (dc all an (i::A) r) false) false
def cn(i:Nat):List Oper→Bool
 | []=>true
 | o::r=>cond ((ah o).all fun j=>Nat.blt j i) (cn (i+1) r) false
def eJ:List Oper→List Nat
 | []=>[]
 | o::r=>match o.dst with | some d=>d::eJ r | none=>eJ r
def gu:List Nat→Bool
 | []=>true
 | i::r=>cond (aw i r) false (gu r)
def Js(all:List Oper)(i:Nat)(o:Op):Nat:=cond (bL o) 0 (cond (cP P all i) 2 1)
def l5(act:Nat)(A:List Nat)(all:List Oper):List Nat→Option Nat
 | []=>none
 | i::r=>match all[i]? with
  | none=>none
  | some o=>cond (and (Nat.beq act (Js P all i o.op)) (jQ (ah o) A)) (some i) (l5 act A all r)
def xN(all:List Oper)(an:List Nat):List Nat→List PStep→List PStep
 | [],t=>t
 | j::r,t=>xN all an r (cond (or (or (cP P all j) (fB all j)) (aw j an)) t (.chk j::t))
def ux(all:List Oper)(an:List (List Nat)):Nat→List Nat→List Nat→Option (List PStep)
 | 0,_,_=>none
 | fuel+1,A,rem=>match rem with
  | []=>some []
  | _::_=>match l5 P 0 A all rem with
   | some i=>(ux all an fuel (i::A) (dQ rem [i])).map fun t=>.op i::xN P all [] A t
   | none=>match l5 P 1 A all rem with
    | some i=>(ux all an fuel (i::A) (dQ rem [i])).map (.op i::·)
    | none=>match l5 P 2 A all rem with
     | some i=>(ux all an fuel (i::A) (dQ rem [i])).map fun t=>.op i::xN P all (fC an i) A t
     | none=>none
def mo(all:List Oper):Option (List PStep):=
 match ux P all (ep all []) (all.length+1) [] (mn all.length).reverse with
 | some p=>cond (and (and (dc P all (ep all []) [] p) (cn 0 all)) (gu (eJ all))) (some p) none
 | none=>none
def eu(es:List Nat):Nat→List Oper→ST→ST
 | _,[],t=>t
 | i,o::r,t=>eu es (i+1) r (cond (aw i es) t (match o.dst with | some d=>t.set .junk (keyOf d) | none=>t))
def ao(es:List Nat)(all:List Oper)(T:Slots):Slots:=Slots.rec (motive:=fun _=>Slots) (fun n t=>.mk n (eu (cat es (b8 all)) 0 all t)) T
def bv(a:Bool)(r:Res):Res:=match r with
 | .alts l=>cond a (.alts l) (.bad "drawn apart in a plan")
 | r=>r
def c9(o:Op)(T:Slots)(h:Heap):Res:=bv (or (mm P o) (bL o)) (gX P o T h)
def xO[Hook](o:Oper)(it:AItem)(k:List AItem)(c:Ctx)(Tm T:Slots)(h:Heap)(ih:Slots→Heap→St)(g:Option Bool):St:=
 Option.rec (motive:=fun _=>St) (.bad "guard") (fun g=>Bool.rec (motive:=fun _=>St) (hG T o.dst .undef (fun T=>ih T h)) (EG P (c9 P o.op Tm h) T (it::k) c (fun v h=>hG T o.dst v (fun T=>ih T h))) g) g
def opM[Hook](o:Oper)(it:AItem)(all:List Oper)(k:List AItem)(c:Ctx)(T:Slots)(h:Heap)(ih:Slots→Heap→St)(Tm:Slots):St:=xO P o it k c Tm T h ih (bd o.guard all Tm)
def opD[Hook](i:Nat)(rest:List PStep)(all:List Oper)(k:List AItem)(c:Ctx)(T:Slots)(h:Heap)(ih:Slots→Heap→St):St:=
 Option.rec (motive:=fun _=>St) (.bad "plan") (fun o=>opM P o (.dops all (.op i::rest)) all k c T h ih (ao (ah o) all T)) (iP all i)
def same(r:Res)(v:AV):Bool:=match r with | .val x _=>fA 60 x v | _=>false
def Kl(o:Oper)(T:Slots)(h:Heap)(Tm:Slots)(d:Nat)(g:Option Bool):Bool:=match g with
 | some true=>same (c9 P o.op Tm h) (T.get d)
 | some false=>(match T.get d with | .undef=>true | _=>false)
 | none=>false
def A0(o:Oper)(all:List Oper)(T:Slots)(h:Heap):Bool:=match o.dst with
 | some d=>Kl P o T h (ao (ah o) all T) d (bd o.guard all (ao (ah o) all T))
 | none=>false
def GH(i:Nat)(all:List Oper)(T:Slots)(h:Heap)(ih:Slots→Heap→St):St:=
 Option.rec (motive:=fun _=>St) (.bad "plan") (fun o=>cond (A0 P o all T h) (ih T h) (.bad "an order that matters")) (iP all i)
def ca[Hook](all:List Oper)(k:List AItem)(c:Ctx)(plan:List PStep):Slots→Heap→St:=
 List.rec (motive:=fun _=>Slots→Heap→St) (fun T h=>.go T k c h) (fun s rest ih T h=>PStep.casesOn (motive:=fun _=>St) s (fun i=>opD P i rest all k c T h ih) (fun i=>GH P i all T h ih)) plan
abbrev SF:=Slots→List AItem→Ctx→Heap→St
def pq(k':Option (List AItem))(T:Slots)(c:Ctx)(h:Heap):St:=
 Option.rec (motive:=fun _=>St) (.bad "exit: no such block") (fun k=>.go T k c h) k'
def lC:SF:=fun T k c h=>.go T k c h
def xP[Hook](p:Option (List PStep))(all:List Oper):SF:=fun T k c h=>Option.rec (motive:=fun _=>St) (.bad "no plan") (fun p=>ca P all k c p T h) p
def xQ[Hook](_:Nat)(ops:Array Oper)(draw:Bool):SF:=fun T k c h=>Bool.rec (motive:=fun _=>St) (gc P ops.toList k c ops.toList T h) (xP P (mo P ops.toList) ops.toList T k c h) draw
def IP(id:Nat):SF:=fun T k c h=>pq (o7 id k) T c h
def IQ(l:Nat):SF:=fun T k c h=>pq (dp l k) T c h
def Km:SF:=fun T _ c h=>od c (.un .returning T c h)
def Dm(w:String):SF:=fun _ _ _ _=>.bad w
def Jt(_:Nat):SF:=lC
def Ln(_ b:Code)(a:SF)(_:SF):SF:=fun T k c h=>a T (.code b::k) c h
def C0(x:Operand)(_ _:Code)(a b:SF):SF:=fun T k c h=>match ev P T x with
 | .bool t=>Bool.rec (motive:=fun _=>St) (b T k c h) (a T k c h) t
 | _=>.bad "cond"
def Ju(id:Nat)(_:Code)(b:SF):SF:=fun T k c h=>b T (.inBlock id::k) c h
def IS(b:Code)(_:SF):SF:=fun T k c h=>.go T (.code b::.inLoop b::k) c h
def GI(b:Code)(_:SF):SF:=fun T k c h=>.go T (.code b::.inScope b::k) c h
def wv(f:AV)(lk:Key)(fr:AFrame)(cs:List AFrame)(h:Heap):St:=match f with
 | .func (.func g) first cap=>(match bodyOf P g with
  | some c=>enter P g (cat first (cat [.func (.yield lk) [] []] cap)) .normal (fr::cs) h c
  | none=>.bad "rangeFunc entry")
 | _=>.bad "rangeFunc"
def xR(f:Operand)(ps:List Nat)(a b:Code)(T:Slots)(k:List AItem)(fn:Nat)(ds:List ADef)(fk:FK)(cs:List AFrame)(h:Heap):St:=match h with
 | .mk t nx=>(match t.get nx,(t.set (.deferred []) nx).get (bV nx) with
  | none,none=>wv P (ev P T f) (bV nx) (.mk fn T (.inRange (bV nx)::k) (⟨.yield nx,[],[]⟩::ds) .run fk) cs (.mk ((t.set (.deferred []) nx).set (.loop .ready none fn T ps a b nx) (bV nx)) (bV (bV nx)))
  | _,_=>.bad "key")
def GJ(f:Operand)(ps:Array Nat)(a b:Code)(_ _:SF):SF:=fun T k c h=>match c with
 | .mk fn ds fk cs=>od c (xR P f ps.toList a b T k fn ds fk cs h)
def fD[Hook](c:Code):SF:=Code.rec (motive:=fun _=>SF) lC (xQ P) Ln (C0 P) Ju IS (GJ P) IP GI Jt IQ Km Dm c
def GK(_:Nat):SF:=lC
def IU(b:Code):SF:=fun T k c h=>.go T (.code b::.inLoop b::k) c h
def GL(_:Code):SF:=lC
def Lp[Hook](all rest:List Oper):SF:=fun T k c h=>gc P all k c rest T h
def Kn[Hook](all:List Oper)(plan:List PStep):SF:=fun T k c h=>ca P all k c plan T h
def xS:SF:=fun T k c h=>match c with
 | .mk _ _ fk _=>(match fk with
  | .round l=>(match h.get l with
   | some (.loop .ready p f tm ps a b d)=>.go T k c (h.put l (.loop .busy p f tm ps a b d))
   | _=>.bad "beginRound")
  | _=>.bad "beginRound")
def I8(l:Key):SF:=fun T k c h=>match h.get l with
 | some (.loop .ready none f tm ps a b d)=>.go T k c (h.put l (.loop .exhausted none f tm ps a b d))
 | _=>.bad "endLoop"
def GM(_:Key):SF:=fun _ _ _ _=>.bad "inRange"
def Aa[Hook](it:AItem):SF:=
 AItem.casesOn (motive:=fun _=>SF) it (fD P) GK IU GL (Lp P) (Kn P) GM I8 xS
def leave(T:Slots)(c:Ctx)(h:Heap):St:=match c with
 | .mk fn ds fk cs=>(match fk with
  | .round l=>(match h.get l,cs with
   | some (.loop _ _ f tm ps a b d),c::cs=>finish c (.bool true) cs (h.put l (.loop .ready none f tm ps a b d))
   | _,_=>.bad "endRound")
  | fk=>.un .returning T (.mk fn ds fk cs) h)
def xT[Hook](T:Slots)(k:List AItem)(c:Ctx)(h:Heap):St:=
 List.rec (motive:=fun _=>St) (leave T c h) (fun it k _=>Aa P it T k c h) k
def Jv(m:AMode):AMode:=match m with
 | .panicking ((_,true)::_)=>.returning
 | m=>m
def Jw(cs:List AFrame)(h:Heap):St:=match cs with
 | []=>.bad "return"
 | .mk fn T _ ds m fk'::cs=>(match Jv m with
   | .run=>.bad "deferred into a running frame"
   | m=>.un m T (.mk fn ds fk' cs) h)
def Jx(v:AV)(cs:List AFrame)(h:Heap):St:=match cs with
 | []=>.done v h
 | fr::cs=>finish fr v cs h
def qp(v:AV)(fk:FK)(cs:List AFrame)(h:Heap):St:=match fk with
 | .normal=>Jx v cs h
 | .deferred=>Jw cs h
 | .round _=>.bad "return of a round"
def Dn(d:ADef)(m:AMode)(T:Slots)(fn:Nat)(ds:List ADef)(dfr:FK)(cs:List AFrame)(h:Heap):St:=match d with
 | ⟨g,cap,args⟩=>(match g with
  | .yield b=>(match h.get b with
   | some (.deferred [])=>.un m T (.mk fn ds dfr cs) (h.put b .dead)
   | _=>.bad "deferred of rounds")
  | .func g=>(match bodyOf P g with
   | some c=>enter P g (cat args cap) .deferred (.mk fn T [] ds m dfr::cs) h c
   | none=>.bad "deferred entry"))
def Dp(chain:List (AV × Bool))(cs:List AFrame)(h:Heap):St:=match cs with
   | .mk fn T k ds m' fk'::cs=>od (.mk fn ds fk' cs) (.un (match m' with | .panicking o=>.panicking (cat chain o) | _=>.panicking chain) (scrub k T) (.mk fn ds fk' cs) h)
   | []=>.bad "panicked out"
def Dq(T:Slots)(fn:Nat)(dfr:FK)(cs:List AFrame)(h:Heap):St:=match c5 P h T (gZ P fn) with
   | none=>.bad "results"
   | some [v]=>qp v dfr cs h
   | some vs=>qp (.tup vs) dfr cs h
def gv(m:AMode)(T:Slots)(c:Ctx)(h:Heap):St:=match c with
 | .mk fn ds dfr cs=>(match ds with
  | d::ds=>Dn P d m T fn ds dfr cs h
  | []=>(match m with
   | .run=>.bad "unwind"
   | .panicking chain=>Dp chain cs h
   | .returning=>Dq P T fn dfr cs h))
def mq(T:Slots)(k:List AItem)(c:Ctx)(v:AV)(h:Heap):St:=GD T k c (fun fr cs _=>finish fr v cs h)
def pu(ih:St→Bool)(T:Slots)(k:List AItem)(c:Ctx)(l:List (AV × Heap)):Bool:=List.rec (motive:=fun _=>Bool) true (fun p _ r=>cond (ih (mq T k c p.1 p.2)) r false) l
def jR[Hook](post:AV→Heap→Bool)(n:Nat):St→Bool:=Nat.rec (motive:=fun _=>St→Bool) (fun _=>false)
 (fun _ ih s=>St.casesOn (motive:=fun _=>Bool) s (fun T k c h=>ih (xT P T k c h)) (fun m T c h=>ih (gv P m T c h)) (fun v h=>post v h) (fun l T k c=>pu ih T k c l) (fun _=>false)) n
end
end Go.VM
end
namespace Go.VM
theorem Slots.get_mk(n:Nat)(r:ST)(i:Nat):(Slots.mk n r).get i=r.get (keyOf i):=rfl
theorem Slots.get_set_same(n:Nat)(r:ST)(d:Nat)(v:AV):(Slots.mk n (r.set v (keyOf d))).get d=v:=by
 rw [Slots.get_mk,ST.get_set_same]
theorem Slots.get_set_other(n:Nat)(r:ST)(d i:Nat)(v:AV)(h:d≠i):(Slots.mk n (r.set v (keyOf d))).get i=(Slots.mk n r).get i:=by
 rw [Slots.get_mk,ST.get_set_other _ _ _ _ (fun e=>h (DH e))];rfl
theorem fg(t:Array Value)(d i:Nat)(V:Value)(hd:d < t.size):(t.setIfInBounds d V).getD i Go.undef=if d=i then V else t.getD i Go.undef:=by
 simp only [Array.getD_eq_getD_getElem?,Array.getElem?_setIfInBounds]
 by_cases h:d=i
 ·subst h;simp [hd]
 ·simp [h]
section
variable {ρ:Rho}
theorem TRel.put{n:Nat}{r:ST}{t:Array Value}(hT:TRel ρ (.mk n r) t){d:Nat}(hd:d < n){v:AV}{V:Value}(hv:Rel ρ v V):TRel ρ (.mk n (r.set v (keyOf d))) (t.setIfInBounds d V):=by
 have hn:t.size=n:=hT.n
 refine⟨by simp [hn],fun i=>?_⟩
 rw [fg t d i V (by omega)]
 by_cases h:d=i
 ·subst h;rw [Slots.get_set_same,if_pos rfl];exact hv
 ·rw [Slots.get_set_other _ _ _ _ _ h,if_neg h];exact hT.at_ i
theorem mX:∀ (args:List AV) (r:ST) (i j n:Nat),(Slots.mk n (gY args r i)).get j=if i≤j∧j < i+args.length then args.getD (j - i) .junk else (Slots.mk n r).get j
 | [],r,i,j,n=>by
  show (Slots.mk n r).get j=_
  rw [if_neg (by rintro ⟨h1,h2⟩;simp only [List.length_nil] at h2;omega)]
 | v::args,r,i,j,n=>by
  show (Slots.mk n (gY args (r.set v (keyOf i)) (i+1))).get j=_
  rw [mX args _ (i+1) j n]
  by_cases h:i=j
  ·subst h
   rw [if_neg (by omega),if_pos (by simp),Slots.get_set_same]
   simp
  ·rw [Slots.get_set_other _ _ _ _ _ h]
   by_cases h2:i+1≤j∧j < i+1+args.length
   ·rw [if_pos h2,if_pos (by simp;omega)]
    rw [show j - i=(j - (i+1))+1 by omega]
    simp
   ·rw [if_neg h2,if_neg (by simp;omega)]
theorem Bg{args:List AV}{A:List Value}{n:Nat}(hr:RelL ρ args A)(hn:args.length≤n):TRel ρ (.mk n (gY args .nil 0)) ((⟨A⟩:Array Value)++Array.replicate (n - A.length) Go.undef):=by
 have hl:=hr.length
 refine⟨by simp;omega,fun i=>?_⟩
 rw [mX]
 by_cases hi:i < args.length
 ·rw [if_pos (by omega)]
  obtain⟨v,hv⟩:∃ v,args[i]?=some v:=⟨_,List.getElem?_eq_getElem hi⟩
  obtain⟨V,hV,hrel⟩:=hr.get? i hv
  have e1:args.getD (i - 0) .junk=v:=by simp [List.getD,hv]
  have e2:((⟨A⟩:Array Value)++Array.replicate (n - A.length) Go.undef).getD i Go.undef=V:=by
   rw [Array.getD_eq_getD_getElem?,Array.getElem?_append_left (by simp;omega)]
   simp [hV]
  rw [e1,e2];exact hrel
 ·rw [if_neg (by omega),Slots.get_mk,ST.get_nil]
  exact .junk _
end
section
variable {P:Program}
theorem Fh{T T':Slots}(h:∀ i,T.get i=T'.get i):ev P T=ev P T':=by
 funext x
 cases x with
 | tmp i=>exact h i
 | _=>rfl
theorem CC{T T':Slots}(h:ev P T=ev P T'):evs P T=evs P T':=by
 funext xs
 induction xs with
 | nil=>rfl
 | cons x r ih=>show ev P T x::evs P T r=ev P T' x::evs P T' r;rw [h,ih]
theorem Fi{T T':Slots}(h:ev P T=ev P T'):j5 P T=j5 P T':=by
 funext xs
 induction xs with
 | nil=>rfl
 | cons x r ih=>show (x.1,ev P T x.2)::j5 P T r=(x.1,ev P T' x.2)::j5 P T' r;rw [h,ih]
theorem Fj{T T':Slots}(h:ev P T=ev P T'):l8 P T=l8 P T':=by
 funext x
 cases x with
 | none=>rfl
 | some x=>show some (ev P T x)=some (ev P T' x);rw [h]
theorem El{T T':Slots}{h:Heap}(e:∀ i,T.get i=T'.get i)(o:Op):dT P o T h=dT P o T' h:=by
 have h1:=Fh (P:=P) e
 have h2:=CC h1
 have h3:=Fi h1
 have h4:=Fj h1
 cases o with
 | call c=>
  obtain⟨callee,args,ts⟩:=c
  cases callee with
  | value f=>show jJ (ev P T f) (evs P T args.toList) h=jJ (ev P T' f) (evs P T' args.toList) h;rw [h1,h2]
  | invoke r n=>rfl
  | builtin b=>show cN P b ts.toList (evs P T args.toList) h=cN P b ts.toList (evs P T' args.toList) h;rw [h2]
 | defer c=>show jH P c T h=jH P c T' h;unfold jH;rw [h1,h2]
 | _=>simp only [dT,Dg,Gp,xE,Gq,BO,jK,fx,zR,ma,I4,I5,cUn,ul,BP,Gr,uo,me,BQ,fy,BS,em,uq,xH,BU,Gs,BV,xI,nW,BW,no1,no2,no3,no4,h1,h2,h3,h4]
theorem Em{T T':Slots}{h:Heap}(e:∀ i,T.get i=T'.get i)(o:Op):gX P o T h=gX P o T' h:=by
 show g9 P (cm P o) T h (dT P o T h)=g9 P (cm P o) T' h (dT P o T' h)
 rw [El e o]
 cases cm P o with
 | none=>rfl
 | some l=>
  show gr P l T h _=gr P l T' h _
  unfold gr
  rw [CC (Fh (P:=P) e)]
theorem kD{T T':Slots}{h:Heap}(e:∀ i,T.get i=T'.get i)(o:Op):c9 P o T h=c9 P o T' h:=by
 unfold c9;rw [Em e o]
end
end Go.VM
namespace Go.VM
section
variable {P:Program} {h:Heap}
theorem yY{T:Slots}(o:Op)(ha:mm P o=false)(hmk:bL o=false):Keeps h (dT P o T h):=by
 cases o with
 | move x=>exact .val _
 | pick c a b=>exact Be ..
 | build t ps=>exact yQ ..
 | fieldAddr s x f=>
  show Keeps h (ei P s f (ev P T x) h)
  unfold ei;split
  ·exact .cond (.force fun _=>.val _) (.bad _)
  ·exact .bad _
 | field s x f=>
  show Keeps h (ua P s f (ev P T x) h)
  unfold ua;split
  ·split
   ·exact .okv _ _
   ·exact .bad _
  ·exact .bad _
 | unOp op t x=>exact yR ..
 | makeInterface t x=>exact .cond (.val _) (.bad _)
 | makeFunc f a b=>
  show Keeps h (zQ f _ _ h)
  unfold zQ;split
  ·exact .val _
  ·exact .bad _
 | extract x i=>
  show Keeps h (gW _ i h)
  unfold gW;split
  ·exact .okv _ _
  ·exact .bad _
 | nilCheck x=>exact Ei ..
 | index t x i=>exact pT ..
 | indexAddr t x i=>exact iV ..
 | slice t x lo hi mx=>exact pR ..
 | typeAssert x t u ok=>exact wN ..
 | binOp op t x y z=>exact vE _ _ _ _ _ (.inl ha)
 | convert s d x=>
  refine rU s d _ (fun e hu=>?_)
  unfold mm at ha
  cases hs:P.underlying s<;>simp [hu] at ha
 | load t a=>exact rT ..
 | lookup t x i ok=>exact mS ..
 | call c=>
  obtain⟨callee,args,ts⟩:=c
  cases callee with
  | value f=>simp [mm] at ha
  | invoke r n=>simp [mm] at ha
  | builtin b=>
   show Keeps h (cN P b ts.toList (evs P T args.toList) h)
   have one:∀ {k:AV→Res},(∀ x,Keeps h (k x))→Keeps h (vd (evs P T args.toList) k):=fun hk=>by
    unfold vd;split;exact hk _;exact .bad _
   have two:∀ {k:AV→AV→Res},(∀ x y,Keeps h (k x y))→Keeps h (zO (evs P T args.toList) k):=fun hk=>by
    unfold zO;split;exact hk _ _;exact .bad _
   have wT:∀ {k:Nat→Res},(∀ t,Keeps h (k t))→Keeps h (iY ts.toList k):=fun hk=>by
    unfold iY;split;exact hk _;exact .bad _
   cases b with
   | len=>exact one fun x=>wT fun t=>vF ..
   | min=>exact rW _
   | max=>exact rX _
   | cap=>exact one fun x=>wT fun t=>Ej t x
   | _=>simp [mm] at ha
 | _=>first | (simp [mm] at ha;done) | (simp [bL] at hmk;done)
theorem uW(b:Key)(ds:List Nat)(rs:List AV):Keeps h (bv false (kZ b ds rs h)):=by
 unfold kZ
 split
 ·exact .bad _
 ·rename_i v r
  cases isB v with
  | false=>exact .val _
  | true=>
   show Keeps h (bv false (g8 b h (dN ds (v::r))))
   unfold g8
   split
   ·exact .val _
   ·exact .val _
   ·exact .bad _
   ·exact .bad _
theorem yZ(f:List AV→Heap→Res)(vs:List AV)(m:String):Keeps h (bv false (jM f vs h m)):=by
 unfold jM
 split
 ·unfold l0
  split
  ·exact uW _ _ _
  ·exact .bad _
 ·exact .bad _
theorem lQ(k:IntKind)(b:Key)(off:Int)(lo hi:Nat):Keeps h (bv false (xJ k b off lo hi h)):=by
 unfold xJ
 cases and (ur (Int.ofNat lo+off)) (ur (Int.ofNat hi+off)) with
 | true=>rw [jY];exact .val _
 | false=>exact .bad _
theorem pY(y n:Bool)(b:Key)(m lo hi:Nat):Keeps h (bv false (nX y n b m lo hi h)):=by
 unfold nX
 cases Nat.ble m lo with
 | true=>exact .val _
 | false=>
  cases Nat.ble hi m with
  | true=>exact .val _
  | false=>rw [af];exact .bad _
theorem z6(y n:Bool)(b:Key)(d:Int)(lo hi:Nat):Keeps h (bv false (ut y n b d lo hi h)):=by
 unfold ut
 split
 ·rename_i m
  cases or (Nat.blt m lo) (Nat.ble hi m) with
  | true=>exact .val _
  | false=>
   cases Nat.ble hi (lo+1) with
   | true=>exact .val _
   | false=>rw [af,af];exact .bad _
 ·exact .val _
theorem e8{b:Bool}{x y:Res}(hx:Keeps h (bv false x))(hy:Keeps h (bv false y)):Keeps h (bv false (cond b x y)):=by cases b;exact hy;exact hx
theorem sK(op:BinOp)(l:Nat):Keeps h (bv false (tV op l h)):=by
 cases op with
 | add=>unfold tV;rw [af];exact e8 (.val _) (.bad _)
 | _=>exact .bad _
theorem uX{op:BinOp}{l:Nat}{vs:List AV}{r:Res}(hg:o5 op l vs h=some r):Keeps h (bv false r):=by
 cases vs with
 | nil=>cases hg
 | cons v0 r0=>
  cases v0 with
  | str m c0=>
   unfold o5 at hg
   dsimp only at hg
   cases hst:cO m (.str m c0::r0) with
   | false=>rw [hst] at hg;cases hg
   | true=>rw [hst] at hg;injection hg with hg;subst hg;exact sK ..
  | _=>cases hg
theorem uY{op:BinOp}{l:Nat}{vs:List AV}{r:Res}(hg:o6 op l vs h=some r):Keeps h (bv false r):=by
 cases vs with
 | nil=>cases hg
 | cons v0 r0=>
  cases v0 with
  | str m c0=>
   unfold o6 at hg
   dsimp only at hg
   cases hst:cO m (.str m c0::r0) with
   | false=>rw [hst] at hg;cases hg
   | true=>rw [hst] at hg;injection hg with hg;subst hg;exact sK ..
  | _=>cases hg
theorem Bk(op:BinOp)(vs:List AV)(r:Res)(hg:jL op vs h=some r):Keeps h (bv false r):=by
 unfold jL at hg
 split at hg
 ·split at hg
  ·cases hg
   refine e8 ?_ (.bad _)
   unfold mf
   split<;>first | exact lQ .. | exact pY .. | exact z6 .. | exact .bad _
  ·cases hg
 ·split at hg
  all_goals first
   | (cases hg;exact e8 (lQ ..) (.bad _))
   | (cases hg;exact e8 (pY ..) (.bad _))
   | cases hg
 ·split at hg
  ·cases hg
   unfold Dh
   split<;>first | exact e8 (.val _) (.bad _) | exact .bad _
  ·cases hg
 ·unfold nY at hg
  split at hg
  ·split at hg
   ·cases hg;exact .val _
   ·cases hg
  ·cases hg
 ·unfold xK at hg
  split at hg
  ·cases hg;exact .val _
  ·cases hg;exact .val _
  ·cases hg
 ·have hlt:∀ y n lo hi m,nZ y n lo hi m h=some r→Keeps h (bv false r):=by
   intro y n lo hi m hg
   unfold nZ at hg
   cases ha:Nat.ble hi m with
   | true=>rw [ha] at hg;cases hg;exact .val _
   | false=>
    rw [ha] at hg
    cases hb:Nat.ble m lo with
    | true=>rw [hb] at hg;cases hg;exact .val _
    | false=>rw [hb] at hg;cases hg
  unfold BX at hg
  split at hg<;>first | exact hlt _ _ _ _ _ hg | cases hg
 ·exact uX hg
 ·exact uY hg
 ·cases hg
theorem z7(src dst:Nat)(vs:List AV)(r:Res)(hg:qn P src dst vs h=some r):Keeps h (bv false r):=by
 unfold qn at hg
 split at hg
 ·split at hg
  ·split at hg
   ·cases hg;exact lQ ..
   ·cases hg
  ·cases hg
 ·cases hg
theorem Bl(ts:List Nat)(vs:List AV)(r:Res)(hg:Gu P ts vs h=some r):Keeps h (bv false r):=by
 unfold Gu at hg
 split at hg
 ·split at hg
  ·cases hg;exact .val _
  ·cases hg
 ·split at hg
  ·cases hg;rw [af];exact .val _
  ·cases hg
 ·cases hg
theorem z8(t:Nat)(vs:List AV)(r:Res)(hg:zU P t vs h=some r):Keeps h (bv false r):=by
 unfold zU at hg
 split at hg
 ·rename_i k off
  split at hg
  ·split at hg
   ·rename_i lo _ _
    cases hc:and (Nat.blt off lo) (and (known P t) (not (bQ P t))) with
    | false=>rw [hc] at hg;cases hg
    | true=>rw [hc] at hg;cases hg;exact .val _
   ·cases hg
  ·rename_i n c _
   cases hc:and (Nat.blt off n) (and (known P t) (not (bQ P t))) with
   | false=>rw [hc] at hg;cases hg
   | true=>rw [hc] at hg;cases hg;rw [bY];exact .val _
  ·cases hg
 ·cases hg
theorem za(t:Nat)(cok:Bool)(vs:List AV)(r:Res)(hg:zT P t cok vs h=some r):Keeps h (bv false r):=by
 unfold zT at hg
 split at hg
 ·split at hg
  ·split at hg
   ·rename_i kt _ m l _ _ _ _ z _
    cases hi:intT P kt with
    | false=>rw [hi] at hg;cases hg
    | true=>
     rw [hi] at hg;cases hg
     unfold IK
     split
     ·exact e8 (.val _) (.bad _)
     ·exact .bad _
   ·cases hg
  ·cases hg
 ·cases hg
theorem Bn(t:Nat)(vs:List AV)(r:Res)(hg:Gx P t vs h=some r):Keeps h (bv false r):=by
 unfold Gx at hg
 split at hg
 ·split at hg
  ·rename_i a b n _ _ e lo _ _ _
   cases hc:and (Nat.blt n lo) (Nat.beq (aU P e) 1) with
   | false=>rw [hc] at hg;cases hg
   | true=>rw [hc] at hg;cases hg;exact .val _
  ·cases hg
 ·cases hg
theorem zb{o:Op}{l:Lift}(hl:cm P o=some l)(vs:List AV)(m:String):Keeps h (bv false (IL l vs h m)):=by
 have key:∀ r,l.g vs h=some r→Keeps h (bv false r):=by
  intro r hg
  cases o with
  | binOp op t x y z=>cases hl;exact Bk _ _ r hg
  | unOp=>cases hl;cases hg
  | convert s d x=>
   have hl:cond (zV P d) none (some (⟨[x],wt P s d,qn P s d⟩:Lift))=some l:=hl
   cases hsl:zV P d with
   | true=>rw [hsl] at hl;cases hl
   | false=>rw [hsl] at hl;cases hl;exact z7 _ _ _ r hg
  | index=>cases hl;cases hg
  | indexAddr=>cases hl;exact Bn _ _ r hg
  | lookup=>cases hl;exact za _ _ _ r hg
  | load=>cases hl;exact z8 _ _ r hg
  | slice t x lo hi mx=>
   cases mx with
   | some _=>cases hl
   | none=>cases hl;cases hg
  | call c=>
   obtain⟨callee,⟨args⟩,ts⟩:=c
   cases callee with
   | builtin b=>cases b<;>first | (cases hl;exact Bl _ _ r hg) | (cases hl;cases hg) | cases hl
   | _=>cases hl
  | _=>cases hl
 show Keeps h (bv false (orG (l.g vs h) (jM l.f vs h m)))
 cases hg:l.g vs h with
 | some r=>exact key r hg
 | none=>exact yZ _ _ _
theorem pZ{T:Slots}(o:Op)(ha:mm P o=false)(hmk:bL o=false):Keeps h (c9 P o T h):=by
 have hp:=yY (P:=P) (h:=h) (T:=T) o ha hmk
 show Keeps h (bv (or (mm P o) (bL o)) (g9 P (cm P o) T h (dT P o T h)))
 rw [ha,hmk]
 rcases hp with ⟨v,hv⟩ | ⟨m,hm⟩
 ·rw [hv]
  cases cm P o with
  | none=>exact .val _
  | some l=>exact .val _
 ·rw [hm]
  cases hl:cm P o with
  | none=>exact .bad _
  | some l=>exact zb hl _ _
theorem sL{w0:Base}{ρ:Rho}{w:World}{o:Oper}{T:Slots}{E:Operand→Value}(hn:NextOk P w0 ρ h w (execOp E o) (gX P o.op T h)):NextOk P w0 ρ h w (execOp E o) (c9 P o.op T h):=by
 unfold c9 bv
 split
 ·cases or (mm P o.op) (bL o.op) with
  | true=>rename_i l e;rw [e] at hn;exact hn
  | false=>exact trivial
 ·exact hn
theorem zc(r:Res):bv true r=r:=by cases r<;>rfl
theorem Bo{T:Slots}{o:Op}(hmk:bL o=true):c9 P o T h=dT P o T h:=by
 unfold c9
 rw [hmk,Bool.or_true,zc]
 cases o<;>first | rfl | cases hmk
end
end Go.VM
namespace Go.VM
theorem kJ{a b:ACap}(h:uu a b=true):a=b:=by
 cases a<;>cases b<;>simp [uu] at h<;>first | (rw [h]) | skip
theorem ne:∀ (d:Nat) (x y:AV),fA d x y=true→x=y:=by
 intro d
 induction d with
 | zero=>intro x y h;simp [fA] at h
 | succ d ih=>
  have ihL:∀ xs ys:List AV,ml (fA d) xs ys=true→xs=ys:=by
   intro xs
   induction xs with
   | nil=>intro ys h;cases ys with
    | nil=>rfl
    | cons=>simp [ml] at h
   | cons a xs ihx=>intro ys h;cases ys with
    | nil=>simp [ml] at h
    | cons b ys=>
     simp only [ml,Bool.and_eq_true] at h
     rw [ih a b h.1,ihx ys h.2]
  intro x y h
  unfold fA at h
  cases x with
  | bool a=>cases y<;>simp at h;rw [h]
  | int k a=>cases y with
   | int k' b=>simp only [Bool.and_eq_true] at h;rw [(aX a b).1 h.2,ap h.1]
   | _=>simp at h
  | float k a=>cases k<;>cases y<;>simp at h;rename_i k b;cases k<;>simp at h;rw [h]
  | str l a=>cases y<;>simp at h;rw [h.1,h.2]
  | nilPtr=>cases y<;>simp at h;rfl
  | ptr a o=>cases y<;>simp at h;rw [(Key.same_iff _ _).1 h.1,h.2]
  | nilSlice=>cases y<;>simp at h;rfl
  | slice a o l c=>cases y<;>simp at h;rw [(Key.same_iff _ _).1 h.1.1,h.1.2,h.2.1,kJ h.2.2]
  | nilMap=>cases y<;>simp at h;rfl
  | map a=>cases y<;>simp at h;rw [(Key.same_iff _ _).1 h]
  | nilFunc=>cases y<;>simp at h;rfl
  | nilIface=>cases y<;>simp at h;rfl
  | iface t a=>cases y<;>simp at h;rw [h.1,ih _ _ h.2]
  | func f a b=>
   cases f with
   | yield l=>simp at h
   | func f=>
    cases y with
    | func g a' b'=>
     cases g with
     | yield l=>simp at h
     | func g=>simp at h;rw [h.1,ihL _ _ h.2.1,ihL _ _ h.2.2]
    | _=>simp at h
  | agg a=>cases y<;>simp at h;rw [ihL _ _ h]
  | tup a=>cases y<;>simp at h;rw [ihL _ _ h]
  | undef=>cases y<;>simp at h;rfl
  | emptyS=>simp at h
  | junk=>cases y<;>simp at h;rfl
  | red k m c j=>simp at h
  | reds k m c s=>simp at h
  | tab a ds xs=>cases y<;>simp at h;rw [(Key.same_iff _ _).1 h.1,h.2.1,ihL _ _ h.2.2]
  | ustr l=>cases y<;>simp at h;rw [h]
  | ofs a b c=>simp at h
  | sliceG a b=>simp at h
  | nan=>cases y<;>simp at h;rfl
  | rng lo hi=>cases y<;>simp at h;rw [h.1,h.2]
  | byte=>simp at h
theorem aY{i:Nat}:∀ {l:List Nat},aw i l=true ↔ i ∈ l
 | []=>by simp [aw]
 | j::r=>by
  unfold aw
  cases h:Nat.beq i j with
  | true=>simp [Nat.eq_of_beq_eq_true h]
  | false=>
   have hne:i≠j:=by intro e;subst e;simp at h
   simp [aY (l:=r),hne]
theorem kK{A:List Nat}:∀ {l:List Nat},jQ l A=true ↔ ∀ i ∈ l,i ∈ A
 | []=>by simp [jQ]
 | j::r=>by
  unfold jQ
  cases h:aw j A with
  | true=>simp [aY.1 h,kK (l:=r)]
  | false=>
   have hne:j ∉ A:=fun e=>by rw [aY.2 e] at h;cases h
   simp [hne]
theorem ng{i:Nat}:∀ {n:Nat},i ∈ mn n ↔ i < n
 | 0=>by simp [mn]
 | n+1=>by simp [mn,ng (n:=n)];omega
theorem lU{i:Nat}{A:List Nat}:∀ {l:List Nat},i ∈ dQ l A ↔ i ∈ l∧i ∉ A
 | []=>by simp [dQ]
 | j::r=>by
  unfold dQ
  cases h:aw j A with
  | true=>
   have hj:=aY.1 h
   simp only [cond_true,lU (l:=r),List.mem_cons]
   constructor
   ·rintro ⟨a,b⟩;exact⟨.inr a,b⟩
   ·rintro ⟨a | a,b⟩
    ·subst a;exact absurd hj b
    ·exact⟨a,b⟩
  | false=>
   have hne:j ∉ A:=fun e=>by rw [aY.2 e] at h;cases h
   simp only [cond_false,List.mem_cons,lU (l:=r)]
   constructor
   ·rintro (a | a)
    ·subst a;exact⟨.inl rfl,hne⟩
    ·exact⟨.inr a.1,a.2⟩
   ·rintro ⟨a | a,b⟩
    ·exact .inl a
    ·exact .inr ⟨a,b⟩
theorem lu{an:List (List Nat)}{i:Nat}:∀ {l:List Nat},cZ an i l=true→∀ x ∈ l,x=i∨i ∈ fC an x
 | [],_,x,hx=>by cases hx
 | y::r,h,x,hx=>by
  unfold cZ at h
  cases hc:(cond (Nat.beq y i) true (aw i (fC an y))) with
  | false=>rw [hc] at h;cases h
  | true=>
   rw [hc] at h
   cases hx with
   | head=>
    cases hb:Nat.beq y i with
    | true=>exact .inl (Nat.eq_of_beq_eq_true hb)
    | false=>rw [hb] at hc;exact .inr (aY.1 hc)
   | tail _ hx=>exact lu h x hx
theorem oQ{P:Program}{all:List Oper}{an ch:List Nat}:∀ {l:List Nat},asked P all an ch l=true→∀ j ∈ l,cP P all j=true∨fB all j=true∨j ∈ an∨j ∈ ch
 | [],_,x,hx=>by cases hx
 | y::r,h,x,hx=>by
  unfold asked at h
  cases hc:(cond (or (cP P all y) (fB all y)) true (cond (aw y an) true (aw y ch))) with
  | false=>rw [hc] at h;cases h
  | true=>
   rw [hc] at h
   cases hx with
   | head=>
    cases hb:cP P all y with
    | true=>exact .inl rfl
    | false=>
     cases hb1:fB all y with
     | true=>exact .inr (.inl rfl)
     | false=>
      rw [hb,hb1] at hc
      cases hb2:aw y an with
      | true=>exact .inr (.inr (.inl (aY.1 hb2)))
      | false=>rw [hb2] at hc;exact .inr (.inr (.inr (aY.1 hc)))
   | tail _ hx=>exact oQ h x hx
end Go.VM
namespace Go.VM
theorem tc:∀ (n:Nat) (C:List Nat),C.Nodup→(∀ i ∈ C,i < n)→C.length≤n
 | 0,C,_,h=>by
  cases C with
  | nil=>simp
  | cons a r=>exact absurd (h a (by simp)) (by omega)
 | n+1,C,hn,h=>by
  by_cases hm:n ∈ C
  ·have h1:=tc n (C.erase n) (hn.erase n) (fun i hi=>by
    have h2:=(List.Nodup.mem_erase_iff hn).1 hi
    have:=h i h2.2;have:=h2.1;omega)
   rw [List.length_erase_of_mem hm] at h1
   omega
  ·have:=tc n C hn (fun i hi=>by have:=h i hi;have:i≠n:=fun e=>hm (e▸hi);omega)
   omega
theorem Bt{n:Nat}{C:List Nat}(hn:C.Nodup)(h:∀ i ∈ C,i < n)(hl:n≤C.length)(i:Nat)(hi:i < n):i ∈ C:=by
 by_cases hm:i ∈ C
 ·exact hm
 ·have:=tc n (i::C) (List.nodup_cons.2 ⟨hm,hn⟩) (fun j hj=>by
   cases hj with
   | head=>exact hi
   | tail _ hj=>exact h j hj)
  simp at this;omega
inductive Topo (ops:List Oper):List Nat→List Nat→Prop where
 | nil {C:List Nat} (h:∀ i,i < ops.length→i ∈ C):Topo ops C []
 | cons {C ord:List Nat} {i:Nat} {o:Oper} (ho:ops[i]?=some o) (hi:i ∉ C) (he:∀ j ∈ ah o,j ∈ C) (hr:Topo ops (i::C) ord):Topo ops C (i::ord)
theorem oR(e:Edge):Region.binds .any e=uv e:=by
 unfold Region.binds uv
 cases e.ground<;>rfl
theorem fp{j:Nat}:∀ {l:List Edge},j ∈ pp l ↔ ∃ e ∈ l,uv e=true∧e.on=j
 | []=>by simp [pp]
 | e::r=>by
  unfold pp
  cases h:uv e with
  | true=>
   simp only [cond_true,List.mem_cons,fp (l:=r)]
   constructor
   ·rintro (rfl | ⟨e',h1,h2⟩)
    ·exact⟨e,.inl rfl,h,rfl⟩
    ·exact⟨e',.inr h1,h2⟩
   ·rintro ⟨e',rfl | h1,h2⟩
    ·exact .inl h2.2.symm
    ·exact .inr ⟨e',h1,h2⟩
  | false=>
   simp only [cond_false,List.mem_cons,fp (l:=r)]
   constructor
   ·rintro ⟨e',h1,h2⟩;exact⟨e',.inr h1,h2⟩
   ·rintro ⟨e',rfl | h1,h2⟩
    ·rw [h] at h2;exact absurd h2.1 (by simp)
    ·exact⟨e',h1,h2⟩
theorem eG:∀ {ops:List Oper} {s i:Nat} {o:Oper},cn s ops=true→ops[i]?=some o→∀ j ∈ ah o,j < s+i
 | [],_,_,_,_,h,_,_=>by simp at h
 | p::r,s,0,o,h,ho,j,hj=>by
  unfold cn at h
  simp at ho;subst ho
  cases hc:((ah p).all fun j=>Nat.blt j s) with
  | false=>rw [hc] at h;cases h
  | true=>have:=List.all_eq_true.1 hc j hj;have:=cb this;omega
 | p::r,s,i+1,o,h,ho,j,hj=>by
  unfold cn at h
  cases hc:((ah p).all fun j=>Nat.blt j s) with
  | false=>rw [hc] at h;cases h
  | true=>
   rw [hc] at h
   have:=eG (s:=s+1) h (by simpa using ho) j hj
   omega
def K4(n:Nat)(listed:Array Bool)(C:List Nat):Prop:=listed.size=n∧∀ i,i < n→(listed.getD i true=true ↔ i ∈ C)
theorem HG{ops:List Oper}(hf:cn 0 ops=true):∀ (fuel t:Nat) (listed:Array Bool) (C:List Nat),K4 ops.length listed C→C.Nodup→(∀ i ∈ C,i < ops.length)→ops.length≤C.length+fuel→
  Topo ops C (Region.linearise.go .any ⟨ops⟩ fuel t listed []):=by
 intro fuel
 induction fuel with
 | zero=>
  intro t listed C hL hn hc hl
  exact .nil (Bt hn hc (by omega))
 | succ fuel ih=>
  intro t listed C hL hn hc hl
  have gT:∀ i,i < ops.length→∀ d,listed.getD i d=decide (i ∈ C):=by
   intro i hi d
   have hsz:i < listed.size:=by rw [hL.1];exact hi
   have e1:∀ d,listed.getD i d=listed[i]:=fun d=>by simp [Array.getD_eq_getD_getElem?,Array.getElem?_eq_getElem hsz]
   have:=hL.2 i hi
   rw [e1] at this ⊢
   by_cases hm:i ∈ C
   ·simp [hm,this.2 hm]
   ·simp only [hm,decide_false];rw [Bool.eq_false_iff];exact fun e=>hm (this.1 e)
  have gF:∀ i,¬ i < ops.length→listed.getD i false=false:=by
   intro i hi
   have hsz:listed.size≤i:=by rw [hL.1];omega
   simp [Array.getD_eq_getD_getElem?,Array.getElem?_eq_none hsz]
  have rdy:∀ j,j ∈ Region.ready .any ⟨ops⟩ listed→∃ o,ops[j]?=some o∧j ∉ C∧∀ x ∈ ah o,x ∈ C:=by
   intro j hj
   obtain⟨h0,o,ho,he⟩:=mem_ready.1 hj
   have ho':ops[j]?=some o:=by simpa using ho
   have hj':j < ops.length:=(List.getElem?_eq_some_iff.1 ho').1
   rw [gT j hj'] at h0
   refine⟨o,ho',by simpa using h0,fun x hx=>?_⟩
   obtain⟨e,hem,hb,rfl⟩:=fp.1 hx
   have:=he e (by simpa using hem) (by rw [oR];exact hb)
   by_cases hlt:e.on < ops.length
   ·rw [gT _ hlt] at this;simpa using this
   ·rw [gF _ hlt] at this;cases this
  show Topo ops C (Region.linearise.go .any ⟨ops⟩ (fuel+1) t listed [])
  unfold Region.linearise.go
  have hrs:((List.range (⟨ops⟩:Array Oper).size).filter fun i=>!listed.getD i true && (((⟨ops⟩:Array Oper)[i]?).map (·.after.all fun e=>!Region.binds .any e || listed.getD e.on false)).getD false)=Region.ready .any ⟨ops⟩ listed:=rfl
  simp only [hrs]
  cases hg:(Region.ready .any ⟨ops⟩ listed)[t % (Region.ready .any ⟨ops⟩ listed).length]? with
  | some i=>
   dsimp only
   rw [linearise_go_acc]
   have hmem:i ∈ Region.ready .any ⟨ops⟩ listed:=List.mem_of_getElem? hg
   obtain⟨o,ho,hi,he⟩:=rdy i hmem
   have hilt:i < ops.length:=(List.getElem?_eq_some_iff.1 ho).1
   refine .cons ho hi he (ih _ _ (i::C) ⟨by simp [hL.1],fun k hk=>?_⟩ (List.nodup_cons.2 ⟨hi,hn⟩) (fun k hk=>?_) (by simp;omega))
   ·by_cases hik:i=k
    ·subst hik
     have:i < listed.size:=by rw [hL.1];exact hk
     simp [Array.getD_eq_getD_getElem?,this]
    ·rw [getD_set_ne true hik,gT k hk]
     have hki:k≠i:=fun e=>hik e.symm
     simp [hki]
   ·cases hk with
    | head=>exact hilt
    | tail _ hk=>exact hc k hk
  | none=>
   refine .nil ?_
   have hempty:Region.ready .any ⟨ops⟩ listed=[]:=by
    cases hr:Region.ready .any ⟨ops⟩ listed with
    | nil=>rfl
    | cons a r=>
     rw [hr] at hg
     rw [List.getElem?_eq_none_iff] at hg
     have:=Nat.mod_lt t (show 0 < (a::r).length by simp)
     omega
   have key:∀ m i,i≤m→i < ops.length→i ∈ C:=by
    intro m
    induction m with
    | zero=>
     intro i him hi
     apply Classical.byContradiction
     intro hnot
     have:i ∈ Region.ready .any ⟨ops⟩ listed:=by
      refine mem_ready.2 ⟨by rw [gT i hi];simpa using hnot,ops[i],by simp [hi],fun e he hb=>?_⟩
      have:=eG hf (List.getElem?_eq_getElem hi) e.on (fp.2 ⟨e,by simpa using he,by rw [←oR];exact hb,rfl⟩)
      omega
     rw [hempty] at this;cases this
    | succ m ihm=>
     intro i him hi
     apply Classical.byContradiction
     intro hnot
     have:i ∈ Region.ready .any ⟨ops⟩ listed:=by
      refine mem_ready.2 ⟨by rw [gT i hi];simpa using hnot,ops[i],by simp [hi],fun e he hb=>?_⟩
      have hlt:=eG hf (List.getElem?_eq_getElem hi) e.on (fp.2 ⟨e,by simpa using he,by rw [←oR];exact hb,rfl⟩)
      have:=ihm e.on (by omega) (by omega)
      rw [gT e.on (by omega)];simpa using this
     rw [hempty] at this;cases this
   exact fun i hi=>key i i (Nat.le_refl _) hi
theorem v6{ops:List Oper}(hf:cn 0 ops=true)(t:Nat):Topo ops [] (Region.schedule true ⟨ops⟩ t):=by
 unfold Region.schedule
 simp only [Bool.true_or,if_true]
 unfold Region.linearise
 exact HG hf _ _ _ [] ⟨by simp,fun i hi=>by simp [Array.getD_eq_getD_getElem?,hi]⟩ List.nodup_nil (by simp) (by simp)
end Go.VM
namespace Go.VM
theorem zl{x i:Nat}{l:List Nat}(h:x ∈ I7 i l):x=i∨x ∈ l:=by
 unfold I7 at h
 cases hb:aw i l with
 | true=>rw [hb] at h;exact .inr h
 | false=>rw [hb] at h;simpa using h
theorem td{x:Nat}{l:List Nat}:∀ {a:List Nat},x ∈ xM a l→x ∈ a∨x ∈ l
 | [],h=>.inr h
 | i::r,h=>by
  unfold xM at h
  rcases zl h with h | h
  ·exact .inl (by simp [h])
  ·rcases td h with h | h
   ·exact .inl (by simp [h])
   ·exact .inr h
theorem vW{acc:List (List Nat)}{j:Nat}:∀ {l:List Nat},j ∈ qo acc l→∃ e ∈ l,j=e∨j ∈ acc.getD e []
 | [],h=>by cases h
 | e::r,h=>by
  unfold qo at h
  rcases zl h with h | h
  ·exact⟨e,by simp,.inl h⟩
  ·rcases td h with h | h
   ·exact⟨e,by simp,.inr h⟩
   ·obtain⟨e,he,hj⟩:=vW h;exact⟨e,by simp [he],hj⟩
theorem jh:∀ (r:List Oper) (acc:List (List Nat)) (k:Nat),k < acc.length→(ep r acc).getD k []=acc.getD k []
 | [],acc,k,_=>rfl
 | o::r,acc,k,hk=>by
  unfold ep
  rw [jh r _ k (by rw [aL];simp;omega),aL]
  simp [List.getD,List.getElem?_append_left hk]
theorem oU:∀ (r:List Oper) (acc:List (List Nat)),cn acc.length r=true→∀ i o,r[i]?=some o→∀ j ∈ (ep r acc).getD (acc.length+i) [],∃ e ∈ ah o,j=e∨j ∈ (ep r acc).getD e []
 | [],acc,_,i,o,ho,_,_=>by simp at ho
 | p::r,acc,hf,0,o,ho,j,hj=>by
  simp at ho;subst ho
  have hall:∀ x ∈ ah p,x < acc.length:=fun x hx=>by have:=eG hf (i:=0) (o:=p) (by simp) x hx;omega
  unfold ep at hj ⊢
  rw [Nat.add_zero] at hj
  rw [jh r _ acc.length (by rw [aL];simp),aL] at hj
  have e1:(acc++[qo acc (ah p)]).getD acc.length []=qo acc (ah p):=by simp [List.getD]
  rw [e1] at hj
  obtain⟨e,he,h⟩:=vW hj
  refine⟨e,he,h.imp id fun h=>?_⟩
  rw [jh r _ e (by rw [aL];simp;have:=hall e he;omega),aL]
  simp [List.getD,List.getElem?_append_left (hall e he)]
  simpa [List.getD] using h
 | p::r,acc,hf,i+1,o,ho,j,hj=>by
  unfold ep at hj ⊢
  have hlen:(cat acc [qo acc (ah p)]).length=acc.length+1:=by rw [aL];simp
  have hf':cn (cat acc [qo acc (ah p)]).length r=true:=by
   rw [hlen]
   unfold cn at hf
   cases hc:((ah p).all fun j=>Nat.blt j acc.length) with
   | false=>rw [hc] at hf;cases hf
   | true=>rw [hc] at hf;exact hf
  exact oU r _ hf' i o (by simpa using ho) j (by rw [hlen];rw [show acc.length+1+i=acc.length+(i+1) by omega];exact hj)
def oV(ops:List Oper)(C:List Nat):Prop:=∀ i ∈ C,∀ o,ops[i]?=some o→∀ j ∈ ah o,j ∈ C
theorem Fw{ops:List Oper}(hf:cn 0 ops=true){C:List Nat}(hC:oV ops C):∀ (m i:Nat),i≤m→∀ o,ops[i]?=some o→(∀ j ∈ ah o,j ∈ C)→∀ j ∈ fC (ep ops []) i,j ∈ C:=by
 intro m
 induction m with
 | zero=>
  intro i hi o ho he j hj
  have hi0:i=0:=by omega
  subst hi0
  obtain⟨e,hem,h⟩:=oU ops [] hf 0 o ho j (by simpa [fC] using hj)
  have:=eG hf ho e hem
  omega
 | succ m ih=>
  intro i hi o ho he j hj
  obtain⟨e,hem,h⟩:=oU ops [] hf i o ho j (by simpa [fC] using hj)
  rcases h with rfl | h
  ·exact he _ hem
  ·have hlt:=eG hf ho e hem
   have hil:i < ops.length:=(List.getElem?_eq_some_iff.1 ho).1
   have hel:e < ops.length:=by omega
   refine ih e (by omega) ops[e] (List.getElem?_eq_getElem hel) (fun x hx=>hC e (he e hem) _ (List.getElem?_eq_getElem hel) x hx) j h
theorem iC:∀ (es:List Nat) (ops:List Oper) (s n t:Nat) (r:ST),(Slots.mk n (eu es s ops r)).get t=.junk∨(Slots.mk n (eu es s ops r)).get t=(Slots.mk n r).get t
 | es,[],s,n,t,r=>.inr rfl
 | es,o::ops,s,n,t,r=>by
  unfold eu
  cases he:aw s es with
  | true=>exact iC es ops (s+1) n t r
  | false=>
   cases hd:o.dst with
   | none=>exact iC es ops (s+1) n t r
   | some d=>
    dsimp only [cond_false]
    rcases iC es ops (s+1) n t (r.set .junk (keyOf d)) with h | h
    ·exact .inl h
    ·by_cases hdt:d=t
     ·subst hdt;left;rw [h,Slots.get_set_same]
     ·right;rw [h,Slots.get_set_other _ _ _ _ _ hdt]
theorem fU:∀ (es:List Nat) (ops:List Oper) (s n t i:Nat) (r:ST) (o:Oper),ops[i]?=some o→o.dst=some t→aw (s+i) es=false→(Slots.mk n (eu es s ops r)).get t=.junk
 | es,[],s,n,t,i,r,o,ho,_,_=>by simp at ho
 | es,p::ops,s,n,t,0,r,o,ho,hd,he=>by
  simp at ho;subst ho
  unfold eu
  rw [Nat.add_zero] at he
  rw [he,hd]
  dsimp only [cond_false]
  rcases iC es ops (s+1) n t (r.set .junk (keyOf t)) with h | h
  ·exact h
  ·rw [h,Slots.get_set_same]
 | es,p::ops,s,n,t,i+1,r,o,ho,hd,he=>by
  unfold eu
  exact fU es ops (s+1) n t i _ o (by simpa using ho) hd (by rw [show s+1+i=s+(i+1) by omega];exact he)
theorem cF:∀ (es:List Nat) (ops:List Oper) (s n t:Nat) (r:ST),(∀ i o,ops[i]?=some o→o.dst=some t→aw (s+i) es=true)→(Slots.mk n (eu es s ops r)).get t=(Slots.mk n r).get t
 | es,[],s,n,t,r,_=>rfl
 | es,o::ops,s,n,t,r,h=>by
  unfold eu
  have hrest:∀ i o',ops[i]?=some o'→o'.dst=some t→aw (s+1+i) es=true:=fun i o' ho hd=>by
   have:=h (i+1) o' (by simpa using ho) hd
   rw [show s+1+i=s+(i+1) by omega];exact this
  cases he:aw s es with
  | true=>exact cF es ops (s+1) n t r hrest
  | false=>
   cases hd:o.dst with
   | none=>exact cF es ops (s+1) n t r hrest
   | some d=>
    dsimp only [cond_false]
    rw [cF es ops (s+1) n t _ hrest]
    by_cases hdt:d=t
    ·subst hdt
     have:=h 0 o (by simp) hd
     rw [Nat.add_zero,he] at this;cases this
    ·rw [Slots.get_set_other _ _ _ _ _ hdt]
end Go.VM
namespace Go.VM
section
variable {P:Program} {fr:Frame} {CS:List Frame} {w:World} {k:List Item}
theorem Fx(hm:fr.mode=.run)(hr:fr.roundOf=none)(ht:fr.todo=[]):step P (lone fr CS w)=.next (lone { fr with mode:=.returning } CS w):=
 step_lone_go (by simp [stepG,stepG.exec,hm,hr,ht])
theorem Fy(hm:fr.mode=.run)(hr:fr.roundOf=none)(ht:fr.todo=.code .ret::k):step P (lone fr CS w)=.next (lone { fr with mode:=.returning } CS w):=
 step_lone_go (by simp [stepG,stepG.exec,hm,hr,ht])
theorem HH(hm:fr.mode=.run)(ht:fr.todo=.code .skip::k):step P (lone fr CS w)=.next (lone { fr with todo:=k } CS w):=
 step_lone_go (by simp [stepG,stepG.exec,hm,ht])
theorem Fz{l:Nat}(hm:fr.mode=.run)(ht:fr.todo=.code (.label l)::k):step P (lone fr CS w)=.next (lone { fr with todo:=k } CS w):=
 step_lone_go (by simp [stepG,stepG.exec,hm,ht])
theorem Bu{id:Nat}(hm:fr.mode=.run)(ht:fr.todo=.inBlock id::k):step P (lone fr CS w)=.next (lone { fr with todo:=k } CS w):=
 step_lone_go (by simp [stepG,stepG.exec,hm,ht])
theorem Bv{c:Code}(hm:fr.mode=.run)(ht:fr.todo=.inScope c::k):step P (lone fr CS w)=.next (lone { fr with todo:=k } CS w):=
 step_lone_go (by simp [stepG,stepG.exec,hm,ht])
theorem Jf{a b:Code}(hm:fr.mode=.run)(ht:fr.todo=.code (.seq a b)::k):step P (lone fr CS w)=.next (lone { fr with todo:=.code a::.code b::k } CS w):=
 step_lone_go (by simp [stepG,stepG.exec,hm,ht])
theorem HI{x:Operand}{a b:Code}{t:Bool}(hm:fr.mode=.run)(ht:fr.todo=.code (.cond x a b)::k)(hx:fr.eval x=.bool t):step P (lone fr CS w)=.next (lone { fr with todo:=.code (if t then a else b)::k } CS w):=
 step_lone_go (by simp [stepG,stepG.exec,hm,ht,hx])
theorem FA{id:Nat}{a:Code}(hm:fr.mode=.run)(ht:fr.todo=.code (.block id a)::k):step P (lone fr CS w)=.next (lone { fr with todo:=.code a::.inBlock id::k } CS w):=
 step_lone_go (by simp [stepG,stepG.exec,hm,ht])
theorem HJ{a:Code}(hm:fr.mode=.run)(ht:fr.todo=.code (.loop a)::k):step P (lone fr CS w)=.next (lone { fr with todo:=.code a::.inLoop a::k } CS w):=
 step_lone_go (by simp [stepG,stepG.exec,hm,ht])
theorem Et{a:Code}(hm:fr.mode=.run)(ht:fr.todo=.inLoop a::k):step P (lone fr CS w)=.next (lone { fr with todo:=.code a::.inLoop a::k } CS w):=
 step_lone_go (by simp [stepG,stepG.exec,hm,ht])
theorem FD{a:Code}(hm:fr.mode=.run)(ht:fr.todo=.code (.scope a)::k):step P (lone fr CS w)=.next (lone { fr with todo:=.code a::.inScope a::k } CS w):=
 step_lone_go (by simp [stepG,stepG.exec,hm,ht])
theorem HL{id:Nat}{k':List Item}(hm:fr.mode=.run)(ht:fr.todo=.code (.exit id)::k)(hk:exitTo id k=some k'):step P (lone fr CS w)=.next (lone { fr with todo:=k' } CS w):=
 step_lone_go (by simp [stepG,stepG.exec,hm,ht,hk])
theorem HM{l:Nat}{k':List Item}(hm:fr.mode=.run)(ht:fr.todo=.code (.goto l)::k)(hk:gotoIn l k=some k'):step P (lone fr CS w)=.next (lone { fr with todo:=k' } CS w):=
 step_lone_go (by simp [stepG,stepG.exec,hm,ht,hk])
theorem Eu{id:Nat}{ops:Array Oper}(hm:fr.mode=.run)(ht:fr.todo=.code (.region id ops false)::k):step P (lone fr CS w)=.next (lone { fr with todo:=.inRegion ops (List.range ops.size)::k } CS w):=
 step_lone_go (by simp [stepG,stepG.exec,hm,ht])
theorem HN{id:Nat}{ops:Array Oper}(hm:fr.mode=.run)(ht:fr.todo=.code (.region id ops true)::k):
  ∃ t,step P (lone fr CS w)=.next (lone { fr with todo:=.inRegion ops (Region.schedule (P.follows .mixedOrders) ops t)::k } CS w.drew):=
 ⟨w.tape w.drawn (.order fr.fn id),step_lone_go (by simp [stepG,stepG.exec,hm,ht,choose,Sem.run,Question.forced,Question.cut])⟩
theorem lw{ops:Array Oper}(hm:fr.mode=.run)(ht:fr.todo=.inRegion ops []::k):step P (lone fr CS w)=.next (lone { fr with todo:=k } CS w):=
 step_lone_go (by simp [stepG,stepG.exec,hm,ht])
theorem lV{ops:Array Oper}{i:Nat}{rest:List Nat}{o:Oper}(hm:fr.mode=.run)(ht:fr.todo=.inRegion ops (i::rest)::k)(ho:ops[i]?=some o)(hw:Region.wanted o (yielded ops fr.tmps)=false):
  step P (lone fr CS w)=.next (lone (fr.finish Go.undef) CS w):=
 step_lone_go (by simp [stepG,stepG.exec,hm,ht,ho,hw])
theorem dA{ops:Array Oper}{i:Nat}{rest:List Nat}{o:Oper}(hm:fr.mode=.run)(hr:fr.roundOf=none∨∀ c,o.op≠.defer c)(ht:fr.todo=.inRegion ops (i::rest)::k)(ho:ops[i]?=some o)(hw:Region.wanted o (yielded ops fr.tmps)=true):
  stepG P true { frame:=fr,callers:=CS,status:=.running,dying:=none } w=stepG.apply P true fr CS none (execOp fr.eval o) w:=by
 have hop:stepG.oper P true fr CS none w=stepG.apply P true fr CS none (execOp fr.eval o) w:=by
  unfold stepG.oper
  simp only [Frame.oper?,ht,ho]
  rcases hr with hr | hr
  ·rw [hr]
  ·split
   ·rename_i c heq;exact absurd heq (hr _)
   ·rfl
 simp [stepG,stepG.exec,hm,ht,ho,hw,hop]
theorem ji{ops:Array Oper}{i:Nat}{rest:List Nat}{o:Oper}{V:Value}{w':World}(hm:fr.mode=.run)(hr:fr.roundOf=none∨∀ c,o.op≠.defer c)(ht:fr.todo=.inRegion ops (i::rest)::k)(ho:ops[i]?=some o)(hw:Region.wanted o (yielded ops fr.tmps)=true)
  (hrun:(execOp fr.eval o).run P w=.ok (.value V) w'):step P (lone fr CS w)=.next (lone (fr.finish V) CS w'):=
 step_lone_go (by rw [dA hm hr ht ho hw];simp [stepG.apply,hrun])
theorem wY{ops:Array Oper}{i:Nat}{rest:List Nat}{o:Oper}{w':World}(hm:fr.mode=.run)(hr:fr.roundOf=none∨∀ c,o.op≠.defer c)(ht:fr.todo=.inRegion ops (i::rest)::k)(ho:ops[i]?=some o)(hw:Region.wanted o (yielded ops fr.tmps)=true)
  (hrun:(execOp fr.eval o).run P w=.ok .skip w'):step P (lone fr CS w)=.next (lone (fr.finish Go.undef) CS w'):=
 step_lone_go (by rw [dA hm hr ht ho hw];simp [stepG.apply,hrun])
theorem zm{ops:Array Oper}{i:Nat}{rest:List Nat}{o:Oper}{f:FuncId}{args:Array Value}{w':World}(hm:fr.mode=.run)(hr:fr.roundOf=none∨∀ c,o.op≠.defer c)(ht:fr.todo=.inRegion ops (i::rest)::k)(ho:ops[i]?=some o)(hw:Region.wanted o (yielded ops fr.tmps)=true)
  (hrun:(execOp fr.eval o).run P w=.ok (.enter f args) w'):step P (lone fr CS w)=.next (lone (Frame.enter P f args .normal) (fr::CS) w'):=
 step_lone_go (by rw [dA hm hr ht ho hw];simp [stepG.apply,hrun,ht])
theorem zo{ops:Array Oper}{i:Nat}{rest:List Nat}{o:Oper}{d:Deferred}{w':World}(hm:fr.mode=.run)(hr:fr.roundOf=none)(ht:fr.todo=.inRegion ops (i::rest)::k)(ho:ops[i]?=some o)(hw:Region.wanted o (yielded ops fr.tmps)=true)
  (hrun:(execOp fr.eval o).run P w=.ok (.defer d) w'):step P (lone fr CS w)=.next (lone ({ fr with defers:=d::fr.defers }.finish Go.undef) CS w'):=
 step_lone_go (by rw [dA hm (.inl hr) ht ho hw];simp [stepG.apply,hrun])
theorem FE{ops:Array Oper}{i:Nat}{rest:List Nat}{o:Oper}{v:Value}{w':World}(hm:fr.mode=.run)(hr:fr.roundOf=none)(ht:fr.todo=.inRegion ops (i::rest)::k)(ho:ops[i]?=some o)(hw:Region.wanted o (yielded ops fr.tmps)=true)
  (hrun:(execOp fr.eval o).run P w=.halt (.panic v) w'):step P (lone fr CS w)=.next (lone (fr.raise [{ v,recovered:=false }]) CS w'):=
 step_lone_go (by rw [dA hm (.inl hr) ht ho hw];simp [stepG.apply,hrun])
theorem te{ops:Array Oper}{i:Nat}{rest:List Nat}{o:Oper}{w':World}(hm:fr.mode=.run)(hr:fr.roundOf=none)(ht:fr.todo=.inRegion ops (i::rest)::k)(ho:ops[i]?=some o)(hw:Region.wanted o (yielded ops fr.tmps)=true)
  (hrun:(execOp fr.eval o).run P w=.ok .recover w'):step P (lone fr CS w)=.next (match tryRecover fr CS with | some (v,CS')=>lone (fr.finish v) CS' w' | none=>lone (fr.finish .nilIface) CS w'):=by
 cases ht':tryRecover fr CS with
 | none=>exact step_lone_go (by rw [dA hm (.inl hr) ht ho hw];simp [stepG.apply,hrun,hr,ht'])
 | some x=>obtain⟨v,CS'⟩:=x;exact step_lone_go (by rw [dA hm (.inl hr) ht ho hw];simp [stepG.apply,hrun,hr,ht'])
theorem FG{ops:Array Oper}{i:Nat}{rest:List Nat}{o:Oper}{l:Nat}{f:FuncId}{t:Array Value}{a b:Code}{w':World}(hm:fr.mode=.run)(hr:fr.roundOf=none∨∀ c,o.op≠.defer c)(ht:fr.todo=.inRegion ops (i::rest)::k)(ho:ops[i]?=some o)(hw:Region.wanted o (yielded ops fr.tmps)=true)
  (hrun:(execOp fr.eval o).run P w=.ok (.round l f t a b) w'):step P (lone fr CS w)=.next (lone (Frame.round l f t a b .normal) (fr::CS) w'):=
 step_lone_go (by rw [dA hm hr ht ho hw];simp [stepG.apply,hrun])
theorem zp{l:Nat}{c:Frame}{v:Value}{w':World}(hm:fr.mode=.run)(hr:fr.roundOf=some l)(hk:fr.kind=.normal)(ht:fr.todo=[])(hrun:(Instr.endRound l none).run P w=.ok v w'):
  step P (lone fr (c::CS) w)=.next (lone (c.finish v) CS w'):=
 step_lone_go (by simp [stepG,stepG.exec,hm,hr,ht,hrun,doReturn,hk])
theorem FH{l:Nat}{w':World}(hm:fr.mode=.run)(hr:fr.roundOf=some l)(ht:fr.todo=.beginRound::k)(hrun:(Instr.beginRound l).run P w=.ok () w'):
  step P (lone fr CS w)=.next (lone { fr with todo:=k } CS w'):=
 step_lone_go (by simp [stepG,stepG.exec,stepG.apply,hm,hr,ht,hrun,Frame.finish])
theorem zq{l:Nat}{w':World}(hm:fr.mode=.run)(ht:fr.todo=.endRangeFunc l::k)(hrun:(Instr.endLoop l).run P w=.ok none w'):
  step P (lone fr CS w)=.next (lone { fr with todo:=k } CS w'):=
 step_lone_go (by simp [stepG,stepG.exec,hm,ht,hrun])
theorem FI{f:Operand}{ps:Array Tmp}{a b:Code}{l:Nat}{mk:List Deferred}{w':World}{g:FuncId}{args:Array Value}(hm:fr.mode=.run)(hr:fr.roundOf=none)(ht:fr.todo=.code (.rangeFunc f ps a b)::k)
  (hrun:(Instr.enterLoop fr.fn fr.tmps ps a b none).run P w=.ok (l,mk) w') (hcall:(do let d ←Deferred.ofValue (fr.eval f) #[.func (.yield l) #[] #[]];invoke d.target d.args:Sem Next).run P w'=.ok (.enter g args) w'):
  step P (lone fr CS w)=.next (lone (Frame.enter P g args .normal) ({ fr with todo:=.inRangeFunc l::k,defers:=mk++fr.defers }::CS) w'):=by
 refine step_lone_go ?_
 have hX:∀ X:Frame,X.tmps=fr.tmps→((resolve X.eval { callee:=.value f,args:=#[.const (.func (.yield l) #[] #[])],argTypes:=#[] } 0).run P w').andThen (fun a w'=>(invoke a.target a.args).run P w')=.ok (.enter g args) w':=by
  intro X hX
  have hev:X.eval f=fr.eval f:=by cases f<;>simp [Frame.eval,hX]
  have e:Array.map X.eval #[Operand.const (.func (.yield l) #[] #[])]=#[.func (.yield l) #[] #[]]:=by simp [Frame.eval]
  have hr:resolve X.eval { callee:=.value f,args:=#[.const (.func (.yield l) #[] #[])],argTypes:=#[] } 0=Deferred.ofValue (fr.eval f) #[.func (.yield l) #[] #[]]:=by
   show Deferred.ofValue (X.eval f) (Array.map X.eval #[Operand.const (.func (.yield l) #[] #[])])=_
   rw [hev,e]
  rw [hr,←hcall,Sem.run_bind]
 simp [stepG,stepG.exec,hm,hr,ht,hrun,stepG.apply,hX]
theorem wZ{b:Nat}{x:Array Value}{ds calls:List Deferred}{w':World}(hm:fr.mode≠.run)(hd:fr.defers={ target:=.collected b,args:=x }::ds)(hrun:(Instr.takeDeferred b).run P w=.ok calls w'):
  step P (lone fr CS w)=.next (lone { fr with defers:=calls++ds } CS w'):=by
 refine step_lone_go ?_
 have:stepG P true { frame:=fr,callers:=CS,status:=.running,dying:=none } w=unwind P true fr CS none w:=by
  unfold stepG
  cases hmm:fr.mode with
  | run=>exact absurd hmm hm
  | returning=>simp [hmm]
  | panicking c=>simp [hmm]
 rw [this]
 simp [unwind,hd,hrun]
end
end Go.VM
noncomputable section
namespace Go.VM
def RT.del{α:Type}(k:Key)(t:RT α):RT α:=RT.setO none k t
theorem RT.get_del_same{α:Type}(k:Key)(t:RT α):(RT.del k t).get k=none:=RT.get_setO_same none k t
theorem RT.get_del_other{α:Type}(k k':Key)(t:RT α)(h:k≠k'):(RT.del k t).get k'=t.get k':=RT.get_setO_other none k k' t h
section
variable {P:Program} {w0:Base} {ρ:Rho} {h h':Heap} {w:World}
theorem Sim.ext(hs:Sim w0 ρ h w)(he:∀ b L,ρ b=some L→h'.get b=h.get b):Sim w0 ρ h' w:=
 ⟨hs.os,hs.out,hs.size,hs.old,hs.sub,fun b L e=>by rw [he b L e];exact hs.obj b L e,
  fun b b' L L' o o' e e' g g' l l' hB=>hs.inj b b' L L' o o' e e' (by rw [←he b L e];exact g) (by rw [←he b' L' e'];exact g') l l' hB⟩
def zt(P:Program)(op:Op)(T:Slots)(ob:AObj)(vf:Key→AV):Prop:=∀ h:Heap,c9 P op T h=h.alloc ob (fun b h=>.val (vf b) h)
theorem zu(e l c:Nat)(z:AV):∃ (ob:AObj) (vf:Key→AV),∀ h:Heap,zK P e l c z h=h.alloc ob (fun b h=>.val (vf b) h):=by
 unfold zK
 cases tZ P e c z with
 | true=>exact⟨.pack e (c / 256) RT.nil,fun b=>.slice b 0 l (.is c),fun h=>rfl⟩
 | false=>
  cases and (isF z) (Nat.ble 4096 c) with
  | true=>exact⟨.bits e c 0,fun b=>.slice b 0 l (.is c),fun h=>rfl⟩
  | false=>exact⟨.cells e (rep c z.cells) false 0,fun b=>.slice b 0 l (.is c),fun h=>rfl⟩
theorem zv{op:Op}(hm:bL op=true)(T:Slots):(∃ ob vf,zt P op T ob vf)∨(∀ h:Heap,∃ m,c9 P op T h=.bad m):=by
 unfold zt
 simp only [Bo hm]
 cases op with
 | alloc e=>
  cases hz:bK P e with
  | none=>exact .inr fun h=>⟨_,by show iM P e h=_;unfold iM;rw [hz]⟩
  | some z=>exact .inl ⟨_,_,fun h=>by show iM P e h=_;unfold iM;rw [hz]⟩
 | box e v=>
  cases hc:(ev P T v).sure with
  | false=>exact .inr fun h=>⟨_,by show vb e (ev P T v) h=_;unfold vb;rw [hc];rfl⟩
  | true=>exact .inl ⟨.cells e (ev P T v).cells false 0,fun b=>.ptr b 0,fun h=>by show vb e (ev P T v) h=_;unfold vb;rw [hc];rfl⟩
 | makeMap t r=>
  cases hc:mc P t (l8 P T r) with
  | false=>exact .inr fun h=>⟨_,by show cond (mc P t (l8 P T r)) _ _=_;rw [hc];rfl⟩
  | true=>exact .inl ⟨.map [] 0,fun b=>.map b,fun h=>by show cond (mc P t (l8 P T r)) _ _=_;rw [hc];rfl⟩
 | buildSlice t n ps=>
  have key:(∃ (ob:AObj) (vf:Key→AV),∀ h:Heap,cJ P t n (j5 P T ps.toList) h=h.alloc ob (fun b h=>.val (vf b) h))∨(∀ h:Heap,∃ m,cJ P t n (j5 P T ps.toList) h=.bad m):=by
   unfold cJ
   split
   ·split
    ·rename_i z _
     cases hc:(and (Nat.beq (len z.cells) (aU P _)) (Nat.ble (n * aU P _) 16777216)) with
     | false=>exact .inr fun h=>⟨_,rfl⟩
     | true=>
      dsimp only [cond_true]
      split
      ·exact .inl ⟨_,_,fun h=>rfl⟩
      ·exact .inr fun h=>⟨_,rfl⟩
    ·exact .inr fun h=>⟨_,rfl⟩
   ·exact .inr fun h=>⟨_,rfl⟩
  exact key
 | makeSlice t l c=>
  have key:(∃ (ob:AObj) (vf:Key→AV),∀ h:Heap,dr P t (ev P T l) (ev P T c) h=h.alloc ob (fun b h=>.val (vf b) h))∨(∀ h:Heap,∃ m,dr P t (ev P T l) (ev P T c) h=.bad m):=by
   unfold dr
   split
   ·split
    ·generalize (and _ _)=c
     cases c with
     | false=>exact .inr fun h=>⟨_,rfl⟩
     | true=>
      dsimp only [cond_true]
      exact .inl (zu ..)
    ·exact .inr fun h=>⟨_,rfl⟩
   ·exact .inr fun h=>⟨_,rfl⟩
  exact key
 | _=>simp [bL] at hm
theorem HQ(hP:TypesOk P)(hs:Sim w0 ρ h w){T:Slots}{E:Operand→Value}(hE:mK P ρ T E){o:Oper}{ob:AObj}{vf:Key→AV}(hmk:zt P o.op T ob vf){b:Key}(hb:h.get b=some ob)(hn:ρ b=none):
  ∃ ρ' w',Sub ρ ρ'∧(∀ k,k≠b→ρ k=none→(∃ x,h.get k=some x)→ρ' k=none)∧Sim w0 ρ' h w'∧((∃ V,Rel ρ' (vf b) V∧(execOp E o).run P w=.ok (.value V) w')∨(vf b=.undef∧(execOp E o).run P w=.ok .skip w')):=by
 obtain⟨t,nx⟩:=h
 have hs2:Sim w0 ρ (.mk (RT.del b t) b) w:=hs.ext fun k L e=>by
  have hne:b≠k:=fun e2=>by subst e2;rw [hn] at e;cases e
  exact RT.get_del_other b k t hne
 have hx:=sL (mL hP hs2 hE o)
 have hal:c9 P o.op T (.mk (RT.del b t) b)=.val (vf b) (.mk ((RT.del b t).set ob b) (bV b)):=by
  rw [hmk]
  show Heap.allocT (RT.del b t) b ob (fun b h=>Res.val (vf b) h)=_
  unfold Heap.allocT
  rw [RT.get_del_same]
 rw [hal] at hx
 obtain⟨ρ',w',hsub,hk,hs3,hc⟩:=hx
 refine⟨ρ',w',hsub,?_,?_,hc⟩
 ·intro k hkb hnk ⟨x,hx⟩
  exact (hk k x ((RT.get_del_other b k t (Ne.symm hkb)).trans hx) hnk).1
 ·refine hs3.ext fun k L e=>?_
  by_cases hkb:b=k
  ·subst hkb
   exact hb.trans (RT.get_set_same ob b _).symm
  ·show t.get k=((RT.del b t).set ob b).get k
   rw [RT.get_set_other ob b k _ hkb,RT.get_del_other b k t hkb]
theorem th{op:Op}(hm:bL op=true){T:Slots}{v:AV}(he:c9 P op T h=.val v h):False:=by
 rcases zv (P:=P) hm T with ⟨ob,vf,hmk⟩ | hb
 ·rw [hmk h] at he
  obtain⟨t,n⟩:=h
  have he:Heap.allocT t n ob (fun b h=>Res.val (vf b) h)=.val v (.mk t n):=he
  unfold Heap.allocT at he
  cases hg:t.get n with
  | some x=>rw [hg] at he;cases he
  | none=>
   rw [hg] at he
   have he:Res.val (vf n) (.mk (t.set ob n) (bV n))=.val v (.mk t n):=he
   injection he with _ he
   injection he with he _
   have:=RT.get_set_same ob n t
   rw [he,hg] at this
   cases this
 ·obtain⟨m,hb⟩:=hb h
  rw [hb] at he;cases he
structure Resv (ρ:Rho) (h:Heap) (R:List (Nat × Key × AObj)):Prop where
 nodup:(R.map (·.2.1)).Nodup
 none_:∀ x ∈ R,ρ x.2.1=none
 obj:∀ x ∈ R,h.get x.2.1=some x.2.2
theorem Resv.nil(ρ:Rho)(h:Heap):Resv ρ h []:=⟨by simp,by simp,by simp⟩
theorem Resv.kept{ρ':Rho}{R:List (Nat × Key × AObj)}(hr:Resv ρ h R)(hk:Kept ρ h ρ' h'):Resv ρ' h' R:=
 ⟨hr.nodup,fun x hx=>(hk _ _ (hr.obj x hx) (hr.none_ x hx)).1,fun x hx=>(hk _ _ (hr.obj x hx) (hr.none_ x hx)).2⟩
theorem Resv.right{R S:List (Nat × Key × AObj)}(hr:Resv ρ h (R++S)):Resv ρ h S:=
 ⟨by have:=hr.nodup;rw [List.map_append] at this;exact (List.nodup_append.1 this).2.1,fun x hx=>hr.none_ x (List.mem_append_right _ hx),fun x hx=>hr.obj x (List.mem_append_right _ hx)⟩
theorem Resv.cons{R:List (Nat × Key × AObj)}(hr:Resv ρ h R){i:Nat}{b:Key}{ob:AObj}(hb:h.get b=none)(hn:ρ b=none)(hg:h'.get b=some ob)(ho:∀ k,k≠b→h'.get k=h.get k):Resv ρ h' ((i,b,ob)::R):=by
 have hne:∀ x ∈ R,x.2.1≠b:=fun x hx e=>by have:=hr.obj x hx;rw [e,hb] at this;cases this
 refine⟨?_,?_,?_⟩
 ·rw [List.map_cons,List.nodup_cons]
  refine⟨fun hm=>?_,hr.nodup⟩
  obtain⟨x,hx,e⟩:=List.mem_map.1 hm
  exact hne x hx e
 ·intro x hx
  cases hx with
  | head=>exact hn
  | tail _ hx=>exact hr.none_ x hx
 ·intro x hx
  cases hx with
  | head=>exact hg
  | tail _ hx=>rw [ho _ (hne x hx)];exact hr.obj x hx
theorem Resv.uniq{R:List (Nat × Key × AObj)}(hr:Resv ρ h R):∀ x ∈ R,∀ y ∈ R,x.2.1=y.2.1→x=y:=by
 have:=hr.nodup
 clear hr
 induction R with
 | nil=>intro x hx;cases hx
 | cons a R ih=>
  rw [List.map_cons,List.nodup_cons] at this
  intro x hx y hy e
  cases hx with
  | head=>
   cases hy with
   | head=>rfl
   | tail _ hy=>exact absurd (List.mem_map.2 ⟨y,hy,e.symm⟩) this.1
  | tail _ hx=>
   cases hy with
   | head=>exact absurd (List.mem_map.2 ⟨x,hx,e⟩) this.1
   | tail _ hy=>exact ih this.2 x hx y hy e
def without(b:Key)(R:List (Nat × Key × AObj)):List (Nat × Key × AObj):=R.filter (fun x=>decide (x.2.1≠b))
theorem jk{b:Key}{R:List (Nat × Key × AObj)}{x:Nat × Key × AObj}:x ∈ without b R ↔ x ∈ R∧x.2.1≠b:=by simp [without]
theorem Resv.drop{ρ':Rho}{R S:List (Nat × Key × AObj)}(hr:Resv ρ h (R++S)){y:Nat × Key × AObj}(hy:y ∈ R)(hk:∀ k,k≠y.2.1→ρ k=none→(∃ x,h.get k=some x)→ρ' k=none):Resv ρ' h (without y.2.1 R++S):=by
 have hmem:∀ x ∈ without y.2.1 R++S,x ∈ R++S∧x.2.1≠y.2.1:=by
  intro x hx
  rcases List.mem_append.1 hx with hx | hx
  ·exact⟨List.mem_append_left _ (jk.1 hx).1,(jk.1 hx).2⟩
  ·refine⟨List.mem_append_right _ hx,fun e=>?_⟩
   have hnd:=hr.nodup
   rw [List.map_append,List.nodup_append] at hnd
   exact hnd.2.2 _ (List.mem_map.2 ⟨y,hy,rfl⟩) _ (List.mem_map.2 ⟨x,hx,rfl⟩) e.symm
 refine⟨?_,fun x hx=>hk _ (hmem x hx).2 (hr.none_ x (hmem x hx).1) ⟨_,hr.obj x (hmem x hx).1⟩,fun x hx=>hr.obj x (hmem x hx).1⟩
 refine List.Sublist.nodup ?_ hr.nodup
 exact (List.Sublist.append (List.filter_sublist) (List.Sublist.refl S)).map _
end
end Go.VM
end
namespace Go.VM
def Glob(P:Program)(ρ:Rho):Prop:=∀ g,g < P.globals.size→∃ L,ρ (jy g)=some L∧L.B=g∧L.base=0
theorem Glob.mono{P:Program}{ρ ρ':Rho}(s:Sub ρ ρ')(h:Glob P ρ):Glob P ρ':=fun g hg=>let ⟨L,a,b⟩:=h g hg;⟨L,s _ _ a,b⟩
theorem gP{P:Program}{ρ:Rho}{T:Slots}{fr:Frame}(hg:Glob P ρ)(hT:TRel ρ T fr.tmps):mK P ρ T fr.eval:=by
 intro x
 refine Ja hT fr.eval (fun i=>rfl) (fun v=>rfl) (fun f=>rfl) (fun g hlt=>?_) x
 obtain⟨L,h1,h2,h3⟩:=hg g hlt
 exact⟨L,h1,by show Value.pointer (some ⟨g,0,none⟩)=_;rw [h2,h3]⟩
theorem oX(all:List Oper)(i:Nat):iP all i=all[i]?:=by simp [iP,vl,bB,List.head?_drop]
def bt(all:List Oper)(i:Nat):Option Nat:=(all[i]?).bind (·.dst)
theorem zr(all:List Oper)(i:Nat):hI all i=bt all i:=by rw [hI,oX];rfl
theorem jj{ρ:Rho}{all:List Oper}{T:Slots}{t:Array Value}(hT:TRel ρ T t){o:Oper}{b:Bool}(hg:bd o.guard all T=some b):Region.wanted o (yielded ⟨all⟩ t)=b:=by
 unfold Region.wanted
 cases hgu:o.guard with
 | none=>rw [hgu] at hg;have:true=b:=by simpa [bd] using hg
         subst this;rfl
 | some g=>
  obtain⟨j,want⟩:=g
  rw [hgu] at hg
  dsimp only
  cases hd:hI all j with
  | none=>simp [bd,hd] at hg
  | some d=>
   have hg':mg (T.get d) want=some b:=by simpa [bd,hd] using hg
   have hd':((⟨all⟩:Array Oper)[j]?).bind (·.dst)=some d:=by rw [zr] at hd;simpa [bt] using hd
   have hrel:=hT.at_ d
   unfold mg at hg'
   generalize hv:T.get d=v at hg' hrel
   generalize hV:t.getD d Go.undef=V at hrel
   unfold yielded
   rw [hd']
   dsimp only [Option.bind_some]
   cases hrel with
   | bool x=>
    have hb:(x == want)=b:=by simpa using hg'
    have:t[d]?=some (.bool x):=by
     rw [Array.getD_eq_getD_getElem?] at hV
     cases ht:t[d]? with
     | none=>rw [ht] at hV;simp [Go.undef] at hV
     | some y=>rw [ht] at hV;simp at hV;rw [hV]
    rw [this]
    dsimp only
    rw [←hb]
    cases x<;>cases want<;>rfl
   | undef=>
    have hb:false=b:=by simpa using hg'
    subst hb
    rw [Array.getD_eq_getD_getElem?] at hV
    cases ht:t[d]? with
    | none=>rfl
    | some y=>rw [ht] at hV;simp at hV;rw [hV];rfl
   | _=>simp at hg'
section
variable (P:Program)
def Chk(all:List Oper)(T:Slots)(h:Heap)(i:Nat):Prop:=∃ o,all[i]?=some o∧
 ((bd o.guard all (ao (ah o) all T)=some true∧∃ v,c9 P o.op (ao (ah o) all T) h=.val v h∧∀ d,o.dst=some d→T.get d=v)∨
  (bd o.guard all (ao (ah o) all T)=some false∧∀ d,o.dst=some d→T.get d=.undef))
def Made(R:List (Nat × Key × AObj))(all:List Oper)(T:Slots)(i:Nat):Prop:=∃ o ob vf b,all[i]?=some o∧bL o.op=true∧bd o.guard all (ao (ah o) all T)=some true∧
 zt P o.op (ao (ah o) all T) ob vf∧(i,b,ob) ∈ R∧∀ d,o.dst=some d→T.get d=vf b
structure DInv (ρ:Rho) (h:Heap) (R:List (Nat × Key × AObj)) (all:List Oper) (plan:List PStep) (A C ord:List Nat) (T:Slots) (t:Array Value):Prop where
 fwd:cn 0 all=true
 inj:∀ i j d,bt all i=some d→bt all j=some d→i=j
 ok:dc P all (ep all []) A plan=true
 topo:Topo all C ord
 closed:oV all C
 closedA:oV all A
 sub:∀ i ∈ C,i ∈ A
 quiet:∀ i ∈ A,i ∉ C→cP P all i=false
 lt:∀ i ∈ A,i < all.length
 dlt:∀ i ∈ A,∀ d,bt all i=some d→d < T.n
 size:t.size=T.n
 slots:∀ s,(∀ i ∈ A,i ∉ C→bt all i≠some s)→Rel ρ (T.get s) (t.getD s Go.undef)
 chk:∀ i ∈ A,i ∉ C→i ∈ d9 plan∨Chk P all T h i∨Made P R all T i
end
section
variable {P:Program} {w0:Base} {ρ:Rho} {h:Heap} {w:World} {all:List Oper} {plan:List PStep} {A C ord:List Nat} {T:Slots} {t:Array Value} {R:List (Nat × Key × AObj)}
theorem DInv.mono{ρ':Rho}(s:Sub ρ ρ')(hD:DInv P ρ h R all plan A C ord T t):DInv P ρ' h R all plan A C ord T t:=
 ⟨hD.fwd,hD.inj,hD.ok,hD.topo,hD.closed,hD.closedA,hD.sub,hD.quiet,hD.lt,hD.dlt,hD.size,fun x hx=>(hD.slots x hx).mono s,hD.chk⟩
theorem oY{i:Nat}:∀ {a b:List Nat},aw i (cat a b)=true ↔ aw i a=true∨aw i b=true
 | [],b=>by simp [cat,aw]
 | x::a,b=>by
  have ih:=oY (i:=i) (a:=a) (b:=b)
  show cond (Nat.beq i x) true (aw i (cat a b))=true ↔ cond (Nat.beq i x) true (aw i a)=true∨_
  cases Nat.beq i x<;>simp [ih]
theorem qb{i:Nat}(h:aw i (b8 all)=true):uw all i=true:=by
 unfold b8 at h
 split at h
 ·cases h
 ·rename_i n _
  cases hc:uw all n with
  | false=>rw [hc] at h;cases h
  | true=>
   rw [hc] at h
   have h:cond (Nat.beq i n) true false=true:=h
   cases hb:Nat.beq i n with
   | true=>rw [Nat.eq_of_beq_eq_true hb];exact hc
   | false=>rw [hb] at h;cases h
theorem nh{i:Nat}(h:aw i (b8 all)=true):cP P all i=true:=by
 have h:=qb h
 unfold cP
 cases ho:all[i]? with
 | none=>rfl
 | some o=>
  dsimp only
  rw [h];simp
theorem ef{i:Nat}(h:cP P all i=false):aw i (b8 all)=false:=by
 cases hb:aw i (b8 all) with
 | false=>rfl
 | true=>rw [nh hb] at h;cases h
theorem tf{i:Nat}{o:Oper}(ho:all[i]?=some o)(h:cP P all i=false):mm P o.op=false:=by
 unfold cP at h
 rw [ho] at h
 dsimp only at h
 rw [Bool.or_eq_false_iff] at h
 exact h.1
theorem qH{i:Nat}{es l:List Nat}(h1:aw i es=false)(h2:aw i l=false):aw i (cat es l)=false:=by
 cases hb:aw i (cat es l) with
 | false=>rfl
 | true=>rcases oY.1 hb with h | h
         ·rw [h1] at h;cases h
         ·rw [h2] at h;cases h
theorem HO(es:List Nat)(all:List Oper)(T:Slots):(ao es all T).n=T.n:=by cases T;rfl
theorem DInv.masked(hD:DInv P ρ h R all plan A C ord T t){o:Oper}(he:∀ j ∈ ah o,j ∈ C):TRel ρ (ao (ah o) all T) t:=by
 refine⟨by rw [HO];exact hD.size,fun s=>?_⟩
 obtain⟨n,r⟩:=T
 show Rel ρ ((Slots.mk n (eu (cat (ah o) (b8 all)) 0 all r)).get s) _
 by_cases hx:∃ i p,all[i]?=some p∧p.dst=some s∧aw i (cat (ah o) (b8 all))=false
 ·obtain⟨i,p,hp,hd,hne⟩:=hx
  rw [fU (cat (ah o) (b8 all)) all 0 n s i r p hp hd (by rw [Nat.zero_add];exact hne)]
  exact .junk _
 ·have hall:∀ i p,all[i]?=some p→p.dst=some s→aw i (cat (ah o) (b8 all))=true:=by
   intro i p hp hd
   cases hb:aw i (cat (ah o) (b8 all)) with
   | true=>rfl
   | false=>exact absurd ⟨i,p,hp,hd,hb⟩ hx
  rw [cF (cat (ah o) (b8 all)) all 0 n s r (fun i p hp hd=>by rw [Nat.zero_add];exact hall i p hp hd)]
  refine hD.slots s fun i hi hni hds=>?_
  unfold bt at hds
  cases hp:all[i]? with
  | none=>simp [hp] at hds
  | some p=>
   rw [hp] at hds
   rcases oY.1 (hall i p hp hds) with h1 | h1
   ·exact hni (he i (aY.1 h1))
   ·have:=hD.quiet i hi hni
    rw [nh h1] at this;cases this
end
end Go.VM
namespace Go.VM
def v7(t:Array Value)(d:Option Nat)(V:Value):Array Value:=match d with | some d=>t.setIfInBounds d V | none=>t
theorem gQ{fr:Frame}{ops:Array Oper}{i:Nat}{rest:List Nat}{k:List Item}(ht:fr.todo=.inRegion ops (i::rest)::k)(V:Value):
  fr.finish V={ fr with tmps:=v7 fr.tmps ((ops[i]?).bind (·.dst)) V,todo:=.inRegion ops rest::k }:=by
 unfold Frame.finish
 rw [ht]
 dsimp only
 cases (ops[i]?).bind (·.dst)<;>rfl
theorem oZ(t:Array Value)(d:Option Nat)(V:Value):(v7 t d V).size=t.size:=by cases d<;>simp [v7]
theorem tg(t:Array Value)(d:Option Nat)(V:Value)(s:Nat)(hd:∀ x,d=some x→x < t.size):(v7 t d V).getD s Go.undef=if d=some s then V else t.getD s Go.undef:=by
 cases d with
 | none=>simp [v7]
 | some d=>
  unfold v7
  rw [fg t d s V (hd d rfl)]
  by_cases h:d=s<;>simp [h]
section
variable {P:Program} {w0:Base} {ρ:Rho} {h:Heap} {w:World} {all:List Oper} {plan:List PStep} {A C ord:List Nat} {T:Slots} {fr:Frame} {CS:List Frame} {k:List Item} {R R' S:List (Nat × Key × AObj)}
theorem DInv.caught{t:Array Value}{j:Nat}{V:Value}(hD:DInv P ρ h R all plan A C (j::ord) T t)(hj:j ∈ A)(hV:∀ d,bt all j=some d→Rel ρ (T.get d) V)(hR:∀ i,i≠j→Made P R all T i→Made P R' all T i):DInv P ρ h R' all plan A (j::C) ord T (v7 t (bt all j) V):=by
 cases hD.topo with
 | cons ho hi he hr=>
  rename_i o
  have hdl:∀ x,bt all j=some x→x < t.size:=fun x hx=>by rw [hD.size];exact hD.dlt j hj x hx
  refine⟨hD.fwd,hD.inj,hD.ok,hr,?_,hD.closedA,?_,?_,hD.lt,hD.dlt,by rw [oZ];exact hD.size,?_,?_⟩
  ·intro i hi' o' ho' x hx
   cases hi' with
   | head=>rw [ho] at ho';cases ho';exact List.mem_cons_of_mem _ (he x hx)
   | tail _ hi'=>exact List.mem_cons_of_mem _ (hD.closed i hi' o' ho' x hx)
  ·intro i hi'
   cases hi' with
   | head=>exact hj
   | tail _ hi'=>exact hD.sub i hi'
  ·intro i hA hC
   exact hD.quiet i hA (fun h=>hC (List.mem_cons_of_mem _ h))
  ·intro s hs
   rw [tg _ _ _ _ hdl]
   by_cases hd:bt all j=some s
   ·rw [if_pos hd];exact hV s hd
   ·rw [if_neg hd]
    refine hD.slots s fun i hA hC=>?_
    by_cases hij:i=j
    ·subst hij;exact hd
    ·exact hs i hA (fun h=>by cases h with | head=>exact hij rfl | tail _ h=>exact hC h)
  ·intro i hA hC
   rcases hD.chk i hA (fun h=>hC (List.mem_cons_of_mem _ h)) with h1 | h1 | h1
   ·exact .inl h1
   ·exact .inr (.inl h1)
   ·exact .inr (.inr (hR i (fun e=>hC (by rw [e];exact List.mem_cons_self)) h1))
theorem FJ(hP:TypesOk P)(hg:Glob P ρ)(hs:Sim w0 ρ h w)(hres:Resv ρ h (R++S))(hm:fr.mode=.run){j:Nat}(ht:fr.todo=.inRegion ⟨all⟩ (j::ord)::k)(hD:DInv P ρ h R all plan A C (j::ord) T fr.tmps)
  (hj:j ∈ A) (hc:Chk P all T h j∨Made P R all T j):∃ ρ' w' t' R',Sub ρ ρ'∧Resv ρ' h (R'++S)∧Sim w0 ρ' h w'∧step P (lone fr CS w)=.next (lone { fr with tmps:=t',todo:=.inRegion ⟨all⟩ ord::k } CS w')∧DInv P ρ' h R' all plan A (j::C) ord T t':=by
 obtain⟨o,ho⟩:∃ o,all[j]?=some o:=by
  rcases hc with ⟨o,ho,_⟩ | ⟨o,_,_,_,ho,_⟩<;>exact⟨o,ho⟩
 have ho':(⟨all⟩:Array Oper)[j]?=some o:=by simpa using ho
 have he:∀ x ∈ ah o,x ∈ C:=by
  cases hD.topo with
  | cons ho2 hi he hr=>rw [ho] at ho2;cases ho2;exact he
 have hjC:j ∉ C:=by cases hD.topo with | cons _ hi _ _=>exact hi
 have hnd:∀ c,o.op≠.defer c:=by
  intro c hc
  have:=hD.quiet j hj hjC
  simp [cP,ho,hc,mm] at this
 have hTm:=hD.masked he
 have hfin:∀ V,fr.finish V={ fr with tmps:=v7 fr.tmps (bt all j) V,todo:=.inRegion ⟨all⟩ ord::k }:=by
  intro V;rw [gQ ht,ho'];simp [bt,ho]
 have hdst:∀ d,bt all j=some d→o.dst=some d:=fun d hd=>by simpa [bt,ho] using hd
 rcases hc with ⟨o2,ho2,hcase⟩ | ⟨o2,ob,vf,b,ho2,hmo,hgu,hmk,hmem,hv⟩
 ·rw [ho] at ho2;cases ho2
  rcases hcase with ⟨hgu,v,hex,hv⟩ | ⟨hgu,hv⟩
  ·have hw:=jj hTm hgu
   have hn:=sL (mL (w:=w) hP hs (gP (fr:=fr) hg hTm) o)
   rw [hex] at hn
   obtain⟨ρ',w',hsub,hkept,hs',hcases⟩:=hn
   rcases hcases with ⟨V,hrel,hrun⟩ | ⟨hve,hrun⟩
   ·refine⟨ρ',w',_,R,hsub,hres.kept hkept,hs',?_,(hD.mono hsub).caught hj (fun d hd=>by rw [hv d (hdst d hd)];exact hrel) (fun _ _ h=>h)⟩
    rw [ji hm (.inr hnd) ht ho' hw hrun,hfin]
   ·refine⟨ρ',w',_,R,hsub,hres.kept hkept,hs',?_,(hD.mono hsub).caught (V:=Go.undef) hj (fun d hd=>by rw [hv d (hdst d hd),hve];exact .undef) (fun _ _ h=>h)⟩
    rw [wY hm (.inr hnd) ht ho' hw hrun,hfin]
  ·have hw:=jj hTm hgu
   refine⟨ρ,w,_,R,Sub.refl _,hres,hs,?_,hD.caught (V:=Go.undef) hj (fun d hd=>by rw [hv d (hdst d hd)];exact .undef) (fun _ _ h=>h)⟩
   rw [lV hm ht ho' hw,hfin]
 ·rw [ho] at ho2;cases ho2
  have hw:=jj hTm hgu
  have hmem':(j,b,ob) ∈ R++S:=List.mem_append_left _ hmem
  obtain⟨ρ',w',hsub,hk,hs',hcases⟩:=HQ (w:=w) hP hs (gP (fr:=fr) hg hTm) hmk (hres.obj _ hmem') (hres.none_ _ hmem')
  have hR:∀ i,i≠j→Made P R all T i→Made P (without b R) all T i:=by
   rintro i hij ⟨o3,ob3,vf3,b3,h1,h2,h3,h4,h5,h6⟩
   refine⟨o3,ob3,vf3,b3,h1,h2,h3,h4,jk.2 ⟨h5,fun e=>?_⟩,h6⟩
   have:=hres.uniq _ (List.mem_append_left _ h5) _ hmem' e
   exact hij (congrArg Prod.fst this)
  have hres':=hres.drop hmem hk
  rcases hcases with ⟨V,hrel,hrun⟩ | ⟨hve,hrun⟩
  ·refine⟨ρ',w',_,without b R,hsub,hres',hs',?_,(hD.mono hsub).caught hj (fun d hd=>by rw [hv d (hdst d hd)];exact hrel) hR⟩
   rw [ji hm (.inr hnd) ht ho' hw hrun,hfin]
  ·refine⟨ρ',w',_,without b R,hsub,hres',hs',?_,(hD.mono hsub).caught (V:=Go.undef) hj (fun d hd=>by rw [hv d (hdst d hd),hve];exact .undef) hR⟩
   rw [wY hm (.inr hnd) ht ho' hw hrun,hfin]
end
end Go.VM
namespace Go.VM
section
variable {P:Program} {w0:Base} {h:Heap} {all:List Oper} {A:List Nat} {T:Slots} {fr:Frame} {CS:List Frame} {k:List Item} {S:List (Nat × Key × AObj)}
def fV(fr:Frame)(t:Array Value)(all:List Oper)(ord:List Nat)(k:List Item):Frame:={ fr with tmps:=t,todo:=.inRegion ⟨all⟩ ord::k }
theorem HP(hP:TypesOk P)(hm:fr.mode=.run){i:Nat}{rest:List PStep}{o:Oper}(ho:all[i]?=some o)(hact:cP P all i=true):∀ (ord:List Nat) (ρ:Rho) (w:World) (t:Array Value) (C:List Nat) (R:List (Nat × Key × AObj)),Glob P ρ→Sim w0 ρ h w→Resv ρ h (R++S)→
  DInv P ρ h R all (.op i::rest) A C ord T t→∃ ρ' w' t' C' ord' R',Sub ρ ρ'∧Resv ρ' h (R'++S)∧Sim w0 ρ' h w'∧Steps P (lone (fV fr t all ord k) CS w) (lone (fV fr t' all (i::ord') k) CS w')∧DInv P ρ' h R' all (.op i::rest) A C' (i::ord') T t':=by
 intro ord
 induction ord with
 | nil=>
  intro ρ w t C R hg hs hres hD
  exfalso
  have hok:=hD.ok
  unfold dc at hok
  rw [ho] at hok
  have hiA:i ∉ A:=by
   intro hm
   have:aw i A=true:=aY.2 hm
   simp [this] at hok
  cases hD.topo with
  | nil hall=>exact hiA (hD.sub i (hall i (List.getElem?_eq_some_iff.1 ho).1))
 | cons j ord ih=>
  intro ρ w t C R hg hs hres hD
  by_cases hji:j=i
  ·subst hji
   exact⟨ρ,w,t,C,ord,R,Sub.refl _,hres,hs,.refl _ _,hD⟩
  ·have hok:=hD.ok
   unfold dc at hok
   rw [ho] at hok
   dsimp only at hok
   have hiA:i ∉ A:=by
    intro hm
    have:aw i A=true:=aY.2 hm
    simp [this] at hok
   have hnA:aw i A=false:=by
    cases hb:aw i A with
    | false=>rfl
    | true=>exact absurd (aY.1 hb) hiA
   have hhang:cZ (ep all []) i (dQ (mn all.length) A)=true:=by
    cases h1:jQ (ah o) A with
    | false=>simp [hnA,h1] at hok
    | true=>
     cases h2:cZ (ep all []) i (dQ (mn all.length) A) with
     | true=>rfl
     | false=>simp [hnA,h1,h2,hact] at hok
   have hj:j ∈ A:=by
    apply Classical.byContradiction
    intro hjA
    cases hD.topo with
    | cons hoj hjC hej hrj=>
     have hjl:j < all.length:=(List.getElem?_eq_some_iff.1 hoj).1
     rcases lu hhang j (lU.2 ⟨ng.2 hjl,hjA⟩) with h1 | h1
     ·exact hji h1
     ·exact hiA (hD.sub i (Fw hD.fwd hD.closed j j (Nat.le_refl _) _ hoj hej i h1))
   have hjC:j ∉ C:=by cases hD.topo with | cons _ hi _ _=>exact hi
   have hc:Chk P all T h j∨Made P R all T j:=by
    rcases hD.chk j hj hjC with h1 | h1
    ·simp [d9] at h1
    ·exact h1
   obtain⟨ρ1,w1,t1,R1,s1,k1,sim1,hstep,hD1⟩:=FJ (CS:=CS) (fr:=fV fr t all (j::ord) k) (k:=k) hP hg hs hres hm rfl hD hj hc
   obtain⟨ρ2,w2,t2,C2,ord2,R2,s2,k2,sim2,hsteps,hD2⟩:=ih ρ1 w1 t1 (j::C) R1 (hg.mono s1) sim1 k1 hD1
   exact⟨ρ2,w2,t2,C2,ord2,R2,s1.trans s2,k2,sim2,.head hstep hsteps,hD2⟩
theorem FL(hP:TypesOk P)(hm:fr.mode=.run):∀ (ord:List Nat) (ρ:Rho) (w:World) (t:Array Value) (C:List Nat) (R:List (Nat × Key × AObj)),Glob P ρ→Sim w0 ρ h w→Resv ρ h (R++S)→
  DInv P ρ h R all [] A C ord T t→∃ ρ' w' t',Sub ρ ρ'∧Resv ρ' h S∧Sim w0 ρ' h w'∧Steps P (lone (fV fr t all ord k) CS w) (lone { fr with tmps:=t',todo:=k } CS w')∧TRel ρ' T t':=by
 intro ord
 induction ord with
 | nil=>
  intro ρ w t C R hg hs hres hD
  refine⟨ρ,w,t,Sub.refl _,hres.right,hs,.one (lw (fr:=fV fr t all [] k) hm rfl),⟨hD.size,fun s=>hD.slots s fun i hA hC=>?_⟩⟩
  cases hD.topo with
  | nil hall=>exact absurd (hall i (hD.lt i hA)) hC
 | cons j ord ih=>
  intro ρ w t C R hg hs hres hD
  have hj:j ∈ A:=by
   cases hD.topo with
   | cons hoj hjC hej hrj=>
    have hjl:j < all.length:=(List.getElem?_eq_some_iff.1 hoj).1
    have hok:=hD.ok
    unfold dc at hok
    exact kK.1 hok j (ng.2 hjl)
  have hjC:j ∉ C:=by cases hD.topo with | cons _ hi _ _=>exact hi
  have hc:Chk P all T h j∨Made P R all T j:=by
   rcases hD.chk j hj hjC with h1 | h1
   ·simp [d9] at h1
   ·exact h1
  obtain⟨ρ1,w1,t1,R1,s1,k1,sim1,hstep,hD1⟩:=FJ (CS:=CS) (fr:=fV fr t all (j::ord) k) (k:=k) hP hg hs hres hm rfl hD hj hc
  obtain⟨ρ2,w2,t2,s2,k2,sim2,hsteps,hD2⟩:=ih ρ1 w1 t1 (j::C) R1 (hg.mono s1) sim1 k1 hD1
  exact⟨ρ2,w2,t2,s1.trans s2,k2,sim2,.head hstep hsteps,hD2⟩
end
end Go.VM
noncomputable section
namespace Go.VM
def putA(T:Slots)(d:Option Nat)(v:AV):Slots:=match d,T with
 | some d,.mk n r=>.mk n (r.set v (keyOf d))
 | none,T=>T
theorem lO(T:Slots)(d:Option Nat)(v:AV):(putA T d v).n=T.n:=by cases d<;>cases T<;>rfl
theorem dG(T:Slots)(d:Option Nat)(v:AV)(s:Nat):(putA T d v).get s=if d=some s then v else T.get s:=by
 cases d with
 | none=>simp [putA]
 | some d=>
  obtain⟨n,r⟩:=T
  show (Slots.mk n (r.set v (keyOf d))).get s=_
  by_cases h:d=s
  ·subst h;rw [Slots.get_set_same];simp
  ·rw [Slots.get_set_other _ _ _ _ _ h];simp [h]
theorem Bh(T:Slots)(d:Option Nat)(v:AV)(k:Slots→St):((∀ x,d=some x→x < T.n)∧hG T d v k=k (putA T d v))∨(∃ m,hG T d v k=.bad m):=by
 cases d with
 | none=>exact .inl ⟨fun x h=>(by cases h),rfl⟩
 | some d=>
  obtain⟨n,r⟩:=T
  show (_∧cond (Nat.blt d n) (k (.mk n (r.set v (keyOf d)))) (.bad "slot")=_)∨(∃ m,cond (Nat.blt d n) (k (.mk n (r.set v (keyOf d)))) (.bad "slot")=.bad m)
  cases hb:Nat.blt d n with
  | true=>exact .inl ⟨fun x h=>by cases h;exact cb hb,rfl⟩
  | false=>exact .inr ⟨_,rfl⟩
theorem TRel.putA{ρ:Rho}{T:Slots}{t:Array Value}(hT:TRel ρ T t){d:Option Nat}(hd:∀ x,d=some x→x < T.n){v:AV}{V:Value}(hv:Rel ρ v V):TRel ρ (putA T d v) (v7 t d V):=by
 refine⟨by rw [oZ,lO];exact hT.n,fun s=>?_⟩
 rw [dG,tg _ _ _ _ (fun x hx=>by rw [hT.n];exact hd x hx)]
 split
 ·exact hv
 ·exact hT.at_ s
section
variable {all:List Oper}
theorem mY{es:List Nat}{i:Nat}{o:Oper}(ho:all[i]?=some o)(hne:aw i (cat es (b8 all))=false)(T:Slots)(v:AV)(s:Nat):(ao es all (putA T o.dst v)).get s=(ao es all T).get s:=by
 cases hd:o.dst with
 | none=>rfl
 | some d=>
  obtain⟨n,r⟩:=T
  show (Slots.mk n (eu (cat es (b8 all)) 0 all (r.set v (keyOf d)))).get s=(Slots.mk n (eu (cat es (b8 all)) 0 all r)).get s
  generalize cat es (b8 all)=es at hne ⊢
  by_cases hx:∃ j p,all[j]?=some p∧p.dst=some s∧aw j es=false
  ·obtain⟨j,p,hp,hd,hne⟩:=hx
   rw [fU es all 0 n s j _ p hp hd (by rw [Nat.zero_add];exact hne),fU es all 0 n s j _ p hp hd (by rw [Nat.zero_add];exact hne)]
  ·have hall:∀ j p,all[j]?=some p→p.dst=some s→aw (0+j) es=true:=by
    intro j p hp hd
    rw [Nat.zero_add]
    cases hb:aw j es with
    | true=>rfl
    | false=>exact absurd ⟨j,p,hp,hd,hb⟩ hx
   rw [cF es all 0 n s _ hall,cF es all 0 n s _ hall]
   have hds:d≠s:=by
    intro e;subst e
    have:=hall i o ho hd
    rw [Nat.zero_add,hne] at this;cases this
   rw [Slots.get_set_other _ _ _ _ _ hds]
theorem iz{g:Option (Nat × Bool)}{T T':Slots}(h:∀ s,T.get s=T'.get s):bd g all T=bd g all T':=by
 cases g with
 | none=>rfl
 | some g=>
  unfold bd
  dsimp only
  cases hI all g.1 with
  | none=>rfl
  | some d=>dsimp only;rw [h d]
end
section
variable {P:Program} {ρ:Rho} {h:Heap} {all:List Oper} {rest:List PStep} {A C ord:List Nat} {T:Slots} {t:Array Value} {R:List (Nat × Key × AObj)}
theorem kE{i:Nat}(hok:dc P all (ep all []) A (.op i::rest)=true):∃ o,all[i]?=some o∧i ∉ A∧(∀ j ∈ ah o,j ∈ A)∧(cP P all i=true→cZ (ep all []) i (dQ (mn all.length) A)=true∧asked P all (fC (ep all []) i) (d9 rest) A=true)∧dc P all (ep all []) (i::A) rest=true∧(cP P all i=false→bL o.op=true→asked P all [] (d9 rest) A=true):=by
 unfold dc at hok
 cases ho:all[i]? with
 | none=>simp [ho] at hok
 | some o=>
  rw [ho] at hok
  dsimp only at hok
  cases h1:aw i A with
  | true=>simp [h1] at hok
  | false=>
   cases h2:jQ (ah o) A with
   | false=>simp [h1,h2] at hok
   | true=>
    simp only [h1,h2,Bool.not_false,Bool.and_self,cond_true] at hok
    have hiA:i ∉ A:=(fun hm=>by rw [aY.2 hm] at h1;cases h1)
    refine⟨o,rfl,hiA,kK.1 h2,?_,?_,?_⟩
    ·intro ha
     rw [ha] at hok
     simp only [cond_true] at hok
     cases h3:(cZ (ep all []) i (dQ (mn all.length) A) && asked P all (fC (ep all []) i) (d9 rest) A) with
     | false=>rw [h3] at hok;cases hok
     | true=>exact Bool.and_eq_true _ _▸h3
    ·cases h3:(cond (cP P all i) (cZ (ep all []) i (dQ (mn all.length) A) && asked P all (fC (ep all []) i) (d9 rest) A) (cond (bL o.op) (asked P all [] (d9 rest) A) true)) with
     | false=>rw [h3] at hok;cases hok
     | true=>rw [h3] at hok;exact hok
    ·intro ha hmo
     rw [ha,hmo] at hok
     cases h3:asked P all [] (d9 rest) A with
     | false=>rw [h3] at hok;cases hok
     | true=>rfl
theorem Chk.put{i j:Nat}{o:Oper}{v:AV}(ho:all[i]?=some o)(hc:Chk P all T h j)(hcl:aw i (b8 all)=false)(hne:∀ p,all[j]?=some p→i ∉ ah p)(hd:∀ d,bt all j=some d→o.dst≠some d):Chk P all (putA T o.dst v) h j:=by
 obtain⟨p,hp,hcase⟩:=hc
 have hni:aw i (ah p)=false:=by
  cases hb:aw i (ah p) with
  | false=>rfl
  | true=>exact absurd (aY.1 hb) (hne p hp)
 have hmask:=mY ho (qH hni hcl) T v
 have hg:=iz (all:=all) (g:=p.guard) hmask
 have hx:=kD (P:=P) (h:=h) hmask p.op
 refine⟨p,hp,?_⟩
 rw [hg,hx]
 have hget:∀ d,p.dst=some d→(putA T o.dst v).get d=T.get d:=fun d hpd=>by
  rw [dG,if_neg (hd d (by simp [bt,hp,hpd]))]
 rcases hcase with ⟨a,x,b,c⟩ | ⟨a,c⟩
 ·exact .inl ⟨a,x,b,fun d hpd=>by rw [hget d hpd];exact c d hpd⟩
 ·exact .inr ⟨a,fun d hpd=>by rw [hget d hpd];exact c d hpd⟩
theorem Made.put{i j:Nat}{o:Oper}{v:AV}(ho:all[i]?=some o)(hc:Made P R all T j)(hcl:aw i (b8 all)=false)(hne:∀ p,all[j]?=some p→i ∉ ah p)(hd:∀ d,bt all j=some d→o.dst≠some d):Made P R all (putA T o.dst v) j:=by
 obtain⟨p,ob,vf,b,hp,hmo,hgu,hmk,hmem,hv⟩:=hc
 have hni:aw i (ah p)=false:=by
  cases hb:aw i (ah p) with
  | false=>rfl
  | true=>exact absurd (aY.1 hb) (hne p hp)
 have hmask:=mY ho (qH hni hcl) T v
 refine⟨p,ob,vf,b,hp,hmo,(iz (all:=all) (g:=p.guard) hmask).trans hgu,fun h=>(kD (P:=P) (h:=h) hmask p.op).trans (hmk h),hmem,fun d hpd=>?_⟩
 rw [dG,if_neg (hd d (by simp [bt,hp,hpd]))]
 exact hv d hpd
theorem Made.more{j:Nat}{x:Nat × Key × AObj}(hc:Made P R all T j):Made P (x::R) all T j:=by
 obtain⟨p,ob,vf,b,hp,hmo,hgu,hmk,hmem,hv⟩:=hc
 exact⟨p,ob,vf,b,hp,hmo,hgu,hmk,List.mem_cons_of_mem _ hmem,hv⟩
theorem DInv.quietOp{i:Nat}{o:Oper}{v:AV}(hD:DInv P ρ h R all (.op i::rest) A C ord T t)(ho:all[i]?=some o)(hq:cP P all i=false)(hdl:∀ x,o.dst=some x→x < T.n)
  (hv:(bd o.guard all (ao (ah o) all T)=some true∧c9 P o.op (ao (ah o) all T) h=.val v h)∨(bd o.guard all (ao (ah o) all T)=some false∧v=.undef)):
  DInv P ρ h R all rest (i::A) C ord (putA T o.dst v) t:=by
 obtain⟨o',ho',hiA,hea,_,hok',_⟩:=kE hD.ok
 rw [ho] at ho';cases ho'
 have hiC:i ∉ C:=fun hm=>hiA (hD.sub i hm)
 have hdo:bt all i=o.dst:=by simp [bt,ho]
 refine⟨hD.fwd,hD.inj,hok',hD.topo,hD.closed,?_,fun j hj=>List.mem_cons_of_mem _ (hD.sub j hj),?_,?_,?_,by rw [lO];exact hD.size,?_,?_⟩
 ·intro j hj p hp x hx
  cases hj with
  | head=>rw [ho] at hp;cases hp;exact List.mem_cons_of_mem _ (hea x hx)
  | tail _ hj=>exact List.mem_cons_of_mem _ (hD.closedA j hj p hp x hx)
 ·intro j hj hjC
  cases hj with
  | head=>exact hq
  | tail _ hj=>exact hD.quiet j hj hjC
 ·intro j hj
  cases hj with
  | head=>exact (List.getElem?_eq_some_iff.1 ho).1
  | tail _ hj=>exact hD.lt j hj
 ·intro j hj d hd
  rw [lO]
  cases hj with
  | head=>rw [hdo] at hd;exact hdl d hd
  | tail _ hj=>exact hD.dlt j hj d hd
 ·intro s hs
  have hne:=hs i (by simp) hiC
  rw [hdo] at hne
  rw [dG,if_neg hne]
  exact hD.slots s fun j hj hjC=>hs j (List.mem_cons_of_mem _ hj) hjC
 ·intro j hj hjC
  right
  cases hj with
  | head=>
   left
   have hni:aw i (ah o)=false:=by
    cases hb:aw i (ah o) with
    | false=>rfl
    | true=>have:=eG hD.fwd ho i (aY.1 hb);omega
   have hmask:=mY ho (qH hni (ef hq)) T v
   refine⟨o,ho,?_⟩
   rw [iz (all:=all) (g:=o.guard) hmask,kD (P:=P) (h:=h) hmask o.op]
   rcases hv with ⟨a,b⟩ | ⟨a,b⟩
   ·exact .inl ⟨a,v,b,fun d hd=>by rw [dG,if_pos hd]⟩
   ·exact .inr ⟨a,fun d hd=>by rw [dG,if_pos hd,b]⟩
  | tail _ hj=>
   have hdd:∀ d,bt all j=some d→o.dst≠some d:=fun d hd e=>by
    have:=hD.inj i j d (by rw [hdo];exact e) hd
    subst this;exact hiA hj
   rcases hD.chk j hj hjC with h1 | h1 | h1
   ·simp [d9] at h1
   ·exact .inl (h1.put ho (ef hq) (fun p hp hm=>hiA (hD.closedA j hj p hp i hm)) hdd)
   ·exact .inr (h1.put ho (ef hq) (fun p hp hm=>hiA (hD.closedA j hj p hp i hm)) hdd)
theorem DInv.madeHere{h':Heap}{i:Nat}{o:Oper}{ob:AObj}{vf:Key→AV}{b:Key}(hD:DInv P ρ h R all (.op i::rest) A C ord T t)(ho:all[i]?=some o)(hq:cP P all i=false)(hmo:bL o.op=true)(hdl:∀ x,o.dst=some x→x < T.n)
  (hgu:bd o.guard all (ao (ah o) all T)=some true) (hmk:zt P o.op (ao (ah o) all T) ob vf):DInv P ρ h' ((i,b,ob)::R) all rest (i::A) C ord (putA T o.dst (vf b)) t:=by
 obtain⟨o',ho',hiA,hea,_,hok',hask⟩:=kE hD.ok
 rw [ho] at ho';cases ho'
 have hask:=hask hq hmo
 have hiC:i ∉ C:=fun hm=>hiA (hD.sub i hm)
 have hdo:bt all i=o.dst:=by simp [bt,ho]
 refine⟨hD.fwd,hD.inj,hok',hD.topo,hD.closed,?_,fun j hj=>List.mem_cons_of_mem _ (hD.sub j hj),?_,?_,?_,by rw [lO];exact hD.size,?_,?_⟩
 ·intro j hj p hp x hx
  cases hj with
  | head=>rw [ho] at hp;cases hp;exact List.mem_cons_of_mem _ (hea x hx)
  | tail _ hj=>exact List.mem_cons_of_mem _ (hD.closedA j hj p hp x hx)
 ·intro j hj hjC
  cases hj with
  | head=>exact hq
  | tail _ hj=>exact hD.quiet j hj hjC
 ·intro j hj
  cases hj with
  | head=>exact (List.getElem?_eq_some_iff.1 ho).1
  | tail _ hj=>exact hD.lt j hj
 ·intro j hj d hd
  rw [lO]
  cases hj with
  | head=>rw [hdo] at hd;exact hdl d hd
  | tail _ hj=>exact hD.dlt j hj d hd
 ·intro s hs
  have hne:=hs i (by simp) hiC
  rw [hdo] at hne
  rw [dG,if_neg hne]
  exact hD.slots s fun j hj hjC=>hs j (List.mem_cons_of_mem _ hj) hjC
 ·intro j hj hjC
  cases hj with
  | head=>
   right;right
   have hni:aw i (ah o)=false:=by
    cases hb:aw i (ah o) with
    | false=>rfl
    | true=>have:=eG hD.fwd ho i (aY.1 hb);omega
   have hmask:=mY ho (qH hni (ef hq)) T (vf b)
   exact⟨o,ob,vf,b,ho,hmo,(iz (all:=all) (g:=o.guard) hmask).trans hgu,fun h=>(kD (P:=P) (h:=h) hmask o.op).trans (hmk h),List.mem_cons_self,fun d hd=>by rw [dG,if_pos hd]⟩
  | tail _ hj=>
   have hdd:∀ d,bt all j=some d→o.dst≠some d:=fun d hd e=>by
    have:=hD.inj i j d (by rw [hdo];exact e) hd
    subst this;exact hiA hj
   rcases oQ hask j hj with h1 | h1 | h1 | h1
   ·rw [hD.quiet j hj hjC] at h1;cases h1
   ·rcases hD.chk j hj hjC with h2 | h2 | h2
    ·simp [d9] at h2
    ·obtain⟨p,hp,hcase⟩:=h2
     have hpm:bL p.op=true:=by simpa [fB,hp] using h1
     rcases hcase with ⟨_,x,hx,_⟩ | ⟨a,c⟩
     ·exact (th hpm hx).elim
     ·exact .inr (.inl (Chk.put (h:=h') ho ⟨p,hp,.inr ⟨a,c⟩⟩ (ef hq) (fun p hp hm=>hiA (hD.closedA j hj p hp i hm)) hdd))
    ·exact .inr (.inr ((h2.put ho (ef hq) (fun p hp hm=>hiA (hD.closedA j hj p hp i hm)) hdd).more))
   ·cases h1
   ·exact .inl h1
theorem sB{j:Nat}(hok:dc P all (ep all []) A (.chk j::rest)=true):fB all j=false∧dc P all (ep all []) A rest=true:=by
 unfold dc at hok
 cases hm:fB all j with
 | true=>rw [hm] at hok;cases hok
 | false=>rw [hm] at hok;exact⟨rfl,hok⟩
theorem DInv.asked{j:Nat}(hD:DInv P ρ h R all (.chk j::rest) A C ord T t)(hc:j ∈ A→j ∉ C→Chk P all T h j):DInv P ρ h R all rest A C ord T t:=by
 refine⟨hD.fwd,hD.inj,(sB hD.ok).2,hD.topo,hD.closed,hD.closedA,hD.sub,hD.quiet,hD.lt,hD.dlt,hD.size,hD.slots,fun i hA hC=>?_⟩
 rcases hD.chk i hA hC with h1 | h1
 ·cases h1 with
  | head=>exact .inr (.inl (hc hA hC))
  | tail _ h1=>exact .inl h1
 ·exact .inr h1
theorem Fk{j:Nat}{o:Oper}(ho:all[j]?=some o)(hq:mm P o.op=false)(hnm:bL o.op=false)(hc:A0 P o all T h=true):Chk P all T h j:=by
 unfold A0 at hc
 cases hd:o.dst with
 | none=>simp [hd] at hc
 | some d=>
  rw [hd] at hc
  dsimp only at hc
  unfold Kl at hc
  refine⟨o,ho,?_⟩
  cases hg:bd o.guard all (ao (ah o) all T) with
  | none=>simp [hg] at hc
  | some b=>
   rw [hg] at hc
   cases b with
   | true=>
    dsimp only at hc
    left
    refine⟨rfl,?_⟩
    rcases pZ (P:=P) (h:=h) (T:=ao (ah o) all T) o.op hq hnm with ⟨v,hv⟩ | ⟨m,hv⟩
    ·rw [hv] at hc
     have:=ne 60 v (T.get d) hc
     exact⟨v,hv,fun d' hd'=>by rw [hd] at hd';cases hd';exact this.symm⟩
    ·rw [hv] at hc;cases hc
   | false=>
    dsimp only at hc
    right
    refine⟨rfl,fun d' hd'=>?_⟩
    rw [hd] at hd';cases hd'
    split at hc
    ·rename_i e;exact e
    ·cases hc
end
end Go.VM
end
namespace Go.VM
inductive IRel:AItem→Item→Prop where
 | code (c:Code):IRel (.code c) (.code c)
 | inBlock (id:Nat):IRel (.inBlock id) (.inBlock id)
 | inLoop (c:Code):IRel (.inLoop c) (.inLoop c)
 | inScope (c:Code):IRel (.inScope c) (.inScope c)
 | beginRound:IRel .beginRound .beginRound
inductive KRel:List AItem→List Item→Prop where
 | nil:KRel [] []
 | cons {a:AItem} {b:Item} {k:List AItem} {l:List Item} (h:IRel a b) (hr:KRel k l):KRel (a::k) (b::l)
section
variable (P:Program)
def Off(all:List Oper)(T:Slots)(i:Nat):Prop:=∃ o,all[i]?=some o∧bd o.guard all (ao (ah o) all T)=some false∧∀ d,o.dst=some d→T.get d=.undef
structure DSus (ρ:Rho) (R:List (Nat × Key × AObj)) (all:List Oper) (i:Nat) (rest:List PStep) (A C ord:List Nat) (T:Slots) (t:Array Value):Prop where
 fwd:cn 0 all=true
 inj:∀ i j d,bt all i=some d→bt all j=some d→i=j
 ok:dc P all (ep all []) (i::A) rest=true
 topo:Topo all (i::C) ord
 closed:oV all (i::C)
 closedA:oV all (i::A)
 sub:∀ j ∈ C,j ∈ A
 quiet:∀ j ∈ A,j ∉ C→cP P all j=false
 lt:∀ j ∈ i::A,j < all.length
 dlt:∀ j ∈ A,∀ d,bt all j=some d→d < T.n
 new:i ∉ A
 size:t.size=T.n
 slots:∀ s,(∀ j ∈ A,j ∉ C→bt all j≠some s)→Rel ρ (T.get s) (t.getD s Go.undef)
 pend:∀ j ∈ A,j ∉ C→j ∈ d9 rest∨Made P R all T j∨Off all T j
 closedA0:oV all A
end
section
variable {P:Program} {ρ:Rho} {h:Heap} {all:List Oper} {rest:List PStep} {A C ord:List Nat} {T:Slots} {t:Array Value} {R:List (Nat × Key × AObj)}
theorem DInv.suspend{i:Nat}{o:Oper}(hD:DInv P ρ h R all (.op i::rest) A C (i::ord) T t)(ho:all[i]?=some o)(hact:cP P all i=true):DSus P ρ R all i rest A C ord T t:=by
 obtain⟨o',ho',hiA,hea,hacts,hok',_⟩:=kE hD.ok
 rw [ho] at ho';cases ho'
 obtain⟨_,hasked⟩:=hacts hact
 cases hD.topo with
 | cons ho2 hiC he hr=>
  rw [ho] at ho2;cases ho2
  refine⟨hD.fwd,hD.inj,hok',hr,?_,?_,hD.sub,hD.quiet,?_,hD.dlt,hiA,hD.size,hD.slots,?_,hD.closedA⟩
  ·intro j hj p hp x hx
   cases hj with
   | head=>rw [ho] at hp;cases hp;exact List.mem_cons_of_mem _ (he x hx)
   | tail _ hj=>exact List.mem_cons_of_mem _ (hD.closed j hj p hp x hx)
  ·intro j hj p hp x hx
   cases hj with
   | head=>rw [ho] at hp;cases hp;exact List.mem_cons_of_mem _ (hea x hx)
   | tail _ hj=>exact List.mem_cons_of_mem _ (hD.closedA j hj p hp x hx)
  ·intro j hj
   cases hj with
   | head=>exact (List.getElem?_eq_some_iff.1 ho).1
   | tail _ hj=>exact hD.lt j hj
  ·intro j hj hjC
   rcases oQ hasked j hj with h1 | h1 | h1 | h1
   ·rw [hD.quiet j hj hjC] at h1;cases h1
   ·rcases hD.chk j hj hjC with h2 | h2 | h2
    ·simp [d9] at h2
    ·obtain⟨p,hp,hcase⟩:=h2
     have hpm:bL p.op=true:=by simpa [fB,hp] using h1
     rcases hcase with ⟨_,x,hx,_⟩ | ⟨a,c⟩
     ·exact (th hpm hx).elim
     ·exact .inr (.inr ⟨p,hp,a,c⟩)
    ·exact .inr (.inl h2)
   ·exact absurd (Fw hD.fwd hD.closed i i (Nat.le_refl _) o ho he j h1) hjC
   ·exact .inl h1
theorem DSus.mono{ρ':Rho}{i:Nat}(s:Sub ρ ρ')(hD:DSus P ρ R all i rest A C ord T t):DSus P ρ' R all i rest A C ord T t:=
 ⟨hD.fwd,hD.inj,hD.ok,hD.topo,hD.closed,hD.closedA,hD.sub,hD.quiet,hD.lt,hD.dlt,hD.new,hD.size,fun x hx=>(hD.slots x hx).mono s,hD.pend,hD.closedA0⟩
theorem DSus.resume{i:Nat}{v:AV}{V:Value}(hD:DSus P ρ R all i rest A C ord T t)(hdl:∀ x,bt all i=some x→x < T.n)(hv:Rel ρ v V):DInv P ρ h R all rest (i::A) (i::C) ord (putA T (bt all i) v) (v7 t (bt all i) V):=by
 refine⟨hD.fwd,hD.inj,hD.ok,hD.topo,hD.closed,hD.closedA,?_,?_,hD.lt,?_,by rw [oZ,lO];exact hD.size,?_,?_⟩
 ·intro j hj
  cases hj with
  | head=>simp
  | tail _ hj=>exact List.mem_cons_of_mem _ (hD.sub j hj)
 ·intro j hj hjC
  cases hj with
  | head=>simp at hjC
  | tail _ hj=>exact hD.quiet j hj (fun h=>hjC (List.mem_cons_of_mem _ h))
 ·intro j hj d hd
  rw [lO]
  cases hj with
  | head=>exact hdl d hd
  | tail _ hj=>exact hD.dlt j hj d hd
 ·intro s hs
  rw [dG,tg _ _ _ _ (fun x hx=>by rw [hD.size];exact hdl x hx)]
  split
  ·exact hv
  ·refine hD.slots s fun j hj hjC=>hs j (List.mem_cons_of_mem _ hj) (fun hm=>?_)
   cases hm with
   | head=>exact hD.new hj
   | tail _ hm=>exact hjC hm
 ·intro j hj hjC
  cases hj with
  | head=>simp at hjC
  | tail _ hj=>
   obtain⟨o,ho⟩:∃ o,all[i]?=some o:=⟨_,List.getElem?_eq_getElem (hD.lt i (by simp))⟩
   have hdo:bt all i=o.dst:=by simp [bt,ho]
   have hdd:∀ d,bt all j=some d→o.dst≠some d:=fun d hd e=>by
    have:=hD.inj i j d (by rw [hdo];exact e) hd
    subst this;exact hD.new hj
   have hne:∀ p,all[j]?=some p→i ∉ ah p:=fun p hp hm=>hD.new (hD.closedA0 j hj p hp i hm)
   have hcl:aw i (b8 all)=false:=by
    cases hb:aw i (b8 all) with
    | false=>rfl
    | true=>
     exfalso
     have hc:=qb hb
     unfold uw at hc
     rw [ho] at hc
     cases hn:Nat.beq (i+1) all.length with
     | false=>rw [hn] at hc;cases hc
     | true=>
      rw [hn] at hc
      have hn:=Nat.eq_of_beq_eq_true hn
      cases hm:bL o.op with
      | true=>simp [hm] at hc
      | false=>
       have hc:jQ (mn i) (ah o)=true:=by simpa [hm] using hc
       have hji:j≠i:=fun e=>hD.new (e▸hj)
       have hjl:=hD.lt j (List.mem_cons_of_mem _ hj)
       exact hjC (hD.closed i (by simp) o ho j (kK.1 hc j (ng.2 (by omega))))
   rw [hdo]
   rcases hD.pend j hj (fun h=>hjC (List.mem_cons_of_mem _ h)) with h1 | h1 | ⟨p,hp,a,c⟩
   ·exact .inl h1
   ·exact .inr (.inr (h1.put ho hcl hne hdd))
   ·exact .inr (.inl (Chk.put ho ⟨p,hp,.inr ⟨a,c⟩⟩ hcl hne hdd))
end
section
variable (P:Program)
inductive SusRel (ρ:Rho):List (Nat × Key × AObj)→Slots→List AItem→Array Value→List Item→Prop where
 | ops {T:Slots} {t:Array Value} {all:List Oper} {i:Nat} {o:Oper} {rest:List Oper} {k:List AItem} {l:List Item} (hT:TRel ρ T t) (ho:all.drop i=o::rest) (hk:KRel k l):
   SusRel ρ [] T (.ops all (o::rest)::k) t (.inRegion ⟨all⟩ ((List.range all.length).drop i)::l)
 | dops {T:Slots} {t:Array Value} {all:List Oper} {i:Nat} {rest:List PStep} {A C ord:List Nat} {k:List AItem} {l:List Item} {R:List (Nat × Key × AObj)} (hD:DSus P ρ R all i rest A C ord T t) (hk:KRel k l):
   SusRel ρ R T (.dops all (.op i::rest)::k) t (.inRegion ⟨all⟩ (i::ord)::l)
 | range {T:Slots} {t:Array Value} {lk:Key} {L:Loc} {k:List AItem} {l:List Item} (hT:TRel ρ T t) (hl:ρ lk=some L) (hk:KRel k l):SusRel ρ [] T (.inRange lk::k) t (.inRangeFunc L.B::l)
inductive ActRel (ρ:Rho) (h:Heap):List (Nat × Key × AObj)→Slots→List AItem→Array Value→List Item→Prop where
 | plain {T:Slots} {t:Array Value} {k:List AItem} {l:List Item} (hT:TRel ρ T t) (hk:KRel k l):ActRel ρ h [] T k t l
 | ops {T:Slots} {t:Array Value} {all:List Oper} {i:Nat} {rest:List Oper} {k:List AItem} {l:List Item} (hT:TRel ρ T t) (ho:rest=all.drop i) (hk:KRel k l):
   ActRel ρ h [] T (.ops all rest::k) t (.inRegion ⟨all⟩ ((List.range all.length).drop i)::l)
 | dops {T:Slots} {t:Array Value} {all:List Oper} {plan:List PStep} {A C ord:List Nat} {k:List AItem} {l:List Item} {R:List (Nat × Key × AObj)} (hD:DInv P ρ h R all plan A C ord T t) (hk:KRel k l):
   ActRel ρ h R T (.dops all plan::k) t (.inRegion ⟨all⟩ ord::l)
 | endRange {T:Slots} {t:Array Value} {lk:Key} {L:Loc} {k:List AItem} {l:List Item} (hT:TRel ρ T t) (hl:ρ lk=some L) (hk:KRel k l):ActRel ρ h [] T (.endRange lk::k) t (.endRangeFunc L.B::l)
inductive ChRel (ρ:Rho):List (AV × Bool)→List PanicEntry→Prop where
 | nil:ChRel ρ [] []
 | cons (v:AV) (V:Value) (b:Bool) (r:List (AV × Bool)) (R:List PanicEntry) (hv:Rel ρ v V) (hr:ChRel ρ r R):ChRel ρ ((v,b)::r) ({ v:=V,recovered:=b }::R)
def Fl:FK→CallKind
 | .normal=>.normal
 | .deferred=>.deferred
 | .round _=>.normal
def RoundRel(ρ:Rho)(fk:FK)(r:Option Nat):Prop:=match fk with
 | .round l=>∃ L,ρ l=some L∧r=some L.B
 | _=>r=none
def gK:FK→Prop
 | .round _=>False
 | _=>True
structure FBase (ρ:Rho) (fn:Nat) (ds:List ADef) (fk:FK) (fr:Frame):Prop where
 name:fr.fn=fn
 fd:∃ fd,jN P fn=some fd
 kind:fr.kind=Fl fk
 round:RoundRel ρ fk fr.roundOf
 defers:DsRel ρ ds fr.defers
inductive MRel (ρ:Rho):AMode→FrameMode→Prop where
 | returning:MRel ρ .returning .returning
 | panicking {c:List (AV × Bool)} {C:List PanicEntry} (h:ChRel ρ c C):MRel ρ (.panicking c) (.panicking C)
inductive FRel (ρ:Rho):List (Nat × Key × AObj)→AFrame→Frame→Prop where
 | run {fn:Nat} {T:Slots} {k:List AItem} {ds:List ADef} {dfr:FK} {fr:Frame} {R:List (Nat × Key × AObj)} (hb:FBase P ρ fn ds dfr fr) (hm:fr.mode=.run) (hs:SusRel P ρ R T k fr.tmps fr.todo):FRel ρ R (.mk fn T k ds .run dfr) fr
 | un {fn:Nat} {T:Slots} {ds:List ADef} {m:AMode} {dfr:FK} {fr:Frame} (hb:FBase P ρ fn ds dfr fr) (hn:gK dfr) (hm:MRel ρ m fr.mode) (hT:TRel ρ T fr.tmps):FRel ρ [] (.mk fn T [] ds m dfr) fr
inductive CsRel (CS0:List Frame) (ρ:Rho):List (Nat × Key × AObj)→List AFrame→List Frame→Prop where
 | nil:CsRel CS0 ρ [] [] CS0
 | cons {a:AFrame} {b:Frame} {k:List AFrame} {l:List Frame} {R S:List (Nat × Key × AObj)} (h:FRel P ρ R a b) (hr:CsRel CS0 ρ S k l):CsRel CS0 ρ (R++S) (a::k) (b::l)
def gL:Nat→FK→List AFrame→Nat × FK
 | fn,d,[]=>(fn,d)
 | _,_,.mk fn _ _ _ _ d::cs=>gL fn d cs
variable (w0:Base) (f0:Nat) (CS0:List Frame)
def Fm:St→Machine→Prop
 | .go T k (.mk fn ds dfr cs) h,m=>∃ ρ fr CS w R S,m=lone fr CS w∧Sim w0 ρ h w∧Resv ρ h (R++S)∧Glob P ρ∧FBase P ρ fn ds dfr fr∧fr.mode=.run∧ActRel P ρ h R T k fr.tmps fr.todo∧CsRel P CS0 ρ S cs CS∧gL fn dfr cs=(f0,.normal)
 | .un am T (.mk fn ds dfr cs) h,m=>∃ ρ fr CS w S,m=lone fr CS w∧Sim w0 ρ h w∧Resv ρ h S∧Glob P ρ∧FBase P ρ fn ds dfr fr∧gK dfr∧MRel ρ am fr.mode∧TRel ρ T fr.tmps∧CsRel P CS0 ρ S cs CS∧gL fn dfr cs=(f0,.normal)
 | _,_=>False
def Reach(m:Machine):St→Prop
 | .bad _=>True
 | .done v h=>∃ ρ fr w V,Steps P m (lone fr CS0 w)∧fr.fn=f0∧fr.leaving P w (.returned V)∧Rel ρ v V∧Sim w0 ρ h w∧Glob P ρ
 | .alt l T k (.mk fn ds dfr cs)=>∃ p,p ∈ l∧∃ ρ fr CS w V R S,Steps P m (lone (fr.finish V) CS w)∧Sim w0 ρ p.2 w∧Resv ρ p.2 (R++S)∧Glob P ρ∧FBase P ρ fn ds dfr fr∧fr.mode=.run∧SusRel P ρ R T k fr.tmps fr.todo∧CsRel P CS0 ρ S cs CS∧gL fn dfr cs=(f0,.normal)∧Rel ρ p.1 V
 | s=>∃ m',Steps P m m'∧Fm P w0 f0 CS0 s m'
end
section
variable {P:Program} {ρ ρ':Rho} (s:Sub ρ ρ')
include s
theorem SusRel.mono:∀ {R:List (Nat × Key × AObj)} {T:Slots} {k:List AItem} {t:Array Value} {l:List Item},SusRel P ρ R T k t l→SusRel P ρ' R T k t l
 | _,_,_,_,_,.ops hT ho hk=>.ops (hT.mono s) ho hk
 | _,_,_,_,_,.dops hD hk=>.dops (hD.mono s) hk
 | _,_,_,_,_,.range hT hl hk=>.range (hT.mono s) (s _ _ hl) hk
theorem ChRel.mono:∀ {a:List (AV × Bool)} {A:List PanicEntry},ChRel ρ a A→ChRel ρ' a A
 | _,_,.nil=>.nil
 | _,_,.cons v V b r R hv hr=>.cons v V b r R (hv.mono s) (ChRel.mono hr)
theorem MRel.mono{a:AMode}{A:FrameMode}:MRel ρ a A→MRel ρ' a A
 | .returning=>.returning
 | .panicking h=>.panicking (h.mono s)
theorem RoundRel.mono{fk:FK}{r:Option Nat}(h:RoundRel ρ fk r):RoundRel ρ' fk r:=by
 cases fk with
 | round l=>obtain⟨L,a,b⟩:=h;exact⟨L,s _ _ a,b⟩
 | _=>exact h
theorem FBase.mono{fn:Nat}{ds:List ADef}{dfr:FK}{fr:Frame}(h:FBase P ρ fn ds dfr fr):FBase P ρ' fn ds dfr fr:=⟨h.name,h.fd,h.kind,h.round.mono s,h.defers.mono s⟩
theorem FRel.mono:∀ {R:List (Nat × Key × AObj)} {a:AFrame} {fr:Frame},FRel P ρ R a fr→FRel P ρ' R a fr
 | _,_,_,.run hb hm hs=>.run (hb.mono s) hm (hs.mono s)
 | _,_,_,.un hb hn hm hT=>.un (hb.mono s) hn (hm.mono s) (hT.mono s)
theorem CsRel.mono{CS0:List Frame}:∀ {R:List (Nat × Key × AObj)} {a:List AFrame} {CS:List Frame},CsRel P CS0 ρ R a CS→CsRel P CS0 ρ' R a CS
 | _,_,_,.nil=>.nil
 | _,_,_,.cons h hr=>.cons (h.mono s) (CsRel.mono hr)
end
end Go.VM
namespace Go.VM
section
variable {P:Program} {w0:Base} {f0:Nat} {CS0:List Frame}
theorem Reach.of_steps{m m':Machine}{s:St}(h:Steps P m m')(hr:Reach P w0 f0 CS0 m' s):Reach P w0 f0 CS0 m s:=by
 cases s with
 | bad=>exact trivial
 | done v hh=>obtain⟨ρ,fr,w,V,a,b⟩:=hr;exact⟨ρ,fr,w,V,h.trans a,b⟩
 | alt l T k c=>obtain⟨fn,ds,dfr,cs⟩:=c;obtain⟨p,hp,ρ,fr,CS,w,V,R,S,a,b⟩:=hr;exact⟨p,hp,ρ,fr,CS,w,V,R,S,h.trans a,b⟩
 | go T k c hh=>obtain⟨m2,a,b⟩:=hr;exact⟨m2,h.trans a,b⟩
 | un am T c hh=>obtain⟨m2,a,b⟩:=hr;exact⟨m2,h.trans a,b⟩
theorem dZ{m:Machine}{T:Slots}{d:Option Nat}{v:AV}{k:Slots→St}(hk:(∀ x,d=some x→x < T.n)→Reach P w0 f0 CS0 m (k (putA T d v))):Reach P w0 f0 CS0 m (hG T d v k):=by
 rcases Bh T d v k with ⟨a,b⟩ | ⟨x,b⟩
 ·rw [b];exact hk a
 ·rw [b];exact trivial
theorem sC{n i:Nat}(hi:i < n):(List.range n).drop i=i::(List.range n).drop (i+1):=by
 rw [List.drop_eq_getElem_cons (by simpa using hi)]
 simp
theorem vL{all:List Oper}{i:Nat}{o:Oper}{rest:List Oper}(h:all.drop i=o::rest):i < all.length∧all[i]?=some o∧rest=all.drop (i+1):=by
 have hlt:i < all.length:=by
  rcases Nat.lt_or_ge i all.length with h' | h'
  ·exact h'
  ·rw [List.drop_eq_nil_of_le h'] at h;cases h
 rw [List.drop_eq_getElem_cons hlt] at h
 injection h with h1 h2
 exact⟨hlt,by rw [List.getElem?_eq_getElem hlt,h1],h2.symm⟩
theorem bE{ρ:Rho}{h:Heap}{w:World}{fn:Nat}{T:Slots}{k:List AItem}{ds:List ADef}{dfr:FK}{cs:List AFrame}{fr:Frame}{CS:List Frame}{v:AV}{V:Value}{am:AMode}{R S:List (Nat × Key × AObj)}
  (hs:Sim w0 ρ h w) (hres:Resv ρ h (R++S)) (hg:Glob P ρ) (hb:FBase P ρ fn ds dfr fr) (hm:fr.mode=.run) (hsus:SusRel P ρ R T k fr.tmps fr.todo) (hcs:CsRel P CS0 ρ S cs CS) (hbot:gL fn dfr cs=(f0,.normal)) (hv:Rel ρ v V):
  Reach P w0 f0 CS0 (lone (fr.finish V) CS w) (finish (.mk fn T k ds am dfr) v cs h):=by
 generalize htm:fr.tmps=t at hsus
 generalize htd:fr.todo=l at hsus
 cases hsus with
 | ops hT ho hk=>
  rename_i all i o rest k l
  obtain⟨hlt,hoi,hrest⟩:=vL ho
  rw [sC hlt] at htd
  dsimp only [finish]
  refine dZ fun hd=>⟨_,.refl _ _,ρ,_,CS,w,_,S,rfl,hs,hres,hg,⟨?_,hb.fd,?_,?_,?_⟩,?_,?_,hcs,hbot⟩
  all_goals rw [gQ htd]
  ·exact hb.name
  ·exact hb.kind
  ·exact hb.round
  ·exact hb.defers
  ·exact hm
  ·have hdst:((⟨all⟩:Array Oper)[i]?).bind (·.dst)=o.dst:=by simp [hoi]
   rw [hdst,htm]
   exact .ops (hT.putA hd hv) hrest hk
 | dops hD hk=>
  rename_i all i rest A C ord k l
  dsimp only [finish]
  rw [zr]
  refine dZ fun hd=>⟨_,.refl _ _,ρ,_,CS,w,_,S,rfl,hs,hres,hg,⟨?_,hb.fd,?_,?_,?_⟩,?_,?_,hcs,hbot⟩
  all_goals rw [gQ htd]
  ·exact hb.name
  ·exact hb.kind
  ·exact hb.round
  ·exact hb.defers
  ·exact hm
  ·have hdst:((⟨all⟩:Array Oper)[i]?).bind (·.dst)=bt all i:=by simp [bt]
   rw [hdst,htm]
   exact .dops (hD.resume hd hv) hk
 | range hT hl hk=>
  rename_i lk L k l
  have hfin:fr.finish V={ fr with todo:=.endRangeFunc L.B::l }:=by unfold Frame.finish;rw [htd]
  dsimp only [finish]
  rw [hfin]
  exact⟨_,.refl _ _,ρ,_,CS,w,_,S,rfl,hs,hres,hg,⟨hb.name,hb.fd,hb.kind,hb.round,hb.defers⟩,hm,by rw [htm];exact .endRange hT hl hk,hcs,hbot⟩
end
end Go.VM
namespace Go.VM
section
variable (P:Program) [Hook]
def Ir:Prop:=∀ f fd,jN P f=some fd→fd.body=none→∀ (w0:Base) (ρ:Rho) (h:Heap) (w:World) (args:List AV) (A:List Value) (v:AV) (h':Heap),Sim w0 ρ h w→RelL ρ args A→I6 P f fd args h=.val v h'→
 ∃ ρ' V w',Sub ρ ρ'∧Kept ρ h ρ' h'∧Sim w0 ρ' h' w'∧Rel ρ' v V∧(callFunc f ⟨A⟩).run P w=.ok (.value V) w'
def SumOk(w0:Base):Prop:=∀ (f:Nat) (ρ:Rho) (h:Heap) (w:World) (args:List AV) (A:List Value) (v:AV) (h':Heap),Sim w0 ρ h w→RelL ρ args A→sumA (bJ f) args h=some (v,h')→
 (callFunc f ⟨A⟩).run P w=.ok (.enter f ⟨A⟩) w∧Calls P f ⟨A⟩ w (fun e w'=>∃ ρ' V,e=.returned V∧Sub ρ ρ'∧Kept ρ h ρ' h'∧Rel ρ' v V∧Sim w0 ρ' h' w')
structure Env (w0:Base):Prop where
 ext:Ir P
 sum:SumOk P w0
end
section
variable {P:Program} {w0:Base} {f0:Nat} {CS0:List Frame} {ρ:Rho} {h:Heap} {w:World} {R S:List (Nat × Key × AObj)} [Hook]
omit [Hook] in
theorem gN{f:Nat}{fd:Func}(hf:jN P f=some fd):P.funcs[f]?=some fd∧(fd.name == "runtime.NumGoroutine")=false:=by
 unfold jN at hf
 cases hp:P.funcs[f]? with
 | none=>simp [hp] at hf
 | some fn=>
  rw [hp] at hf
  dsimp only at hf
  split at hf
  ·cases hf
  ·rename_i hne
   have:fn=fd:=by simpa using hf
   subst this
   exact⟨rfl,by simpa using hne⟩
omit [Hook] in
theorem pV{f:Nat}{c:Code}(hb:bodyOf P f=some c):∃ fd,jN P f=some fd∧fd.body=some c:=by
 unfold bodyOf at hb
 cases hf:jN P f with
 | none=>simp [hf] at hb
 | some fd=>exact⟨fd,rfl,by simpa [hf] using hb⟩
omit [Hook] in
theorem eN{f:Nat}{c:Code}{A:List Value}(hb:bodyOf P f=some c):(callFunc f ⟨A⟩).run P w=.ok (.enter f ⟨A⟩) w:=by
 obtain⟨fd,hf,hbd⟩:=pV hb
 obtain⟨hp,hn⟩:=gN hf
 have hn':¬ fd.name= "runtime.NumGoroutine":=by simpa using hn
 simp [callFunc,run_program,hp,hn',hbd]
omit [Hook] in
theorem fO{f:Nat}{args:List AV}{A:List Value}{dfr:FK}{cs:List AFrame}{CS:List Frame}{c:Code}(hnr:gK dfr)(hs:Sim w0 ρ h w)(hres:Resv ρ h S)(hg:Glob P ρ)(hcs:CsRel P CS0 ρ S cs CS)(hr:RelL ρ args A)(hb:bodyOf P f=some c)
  (hbot:gL f dfr cs=(f0,.normal)):Reach P w0 f0 CS0 (lone (Frame.enter P f ⟨A⟩ (Fl dfr)) CS w) (enter P f args dfr cs h c):=by
 unfold enter
 cases hle:Nat.ble (len args) (cY P f) with
 | false=>exact trivial
 | true=>
  have hle:=Nat.le_of_ble_eq_true hle
  rw [aG] at hle
  obtain⟨fd,hf,hbd⟩:=pV hb
  obtain⟨hp,hn⟩:=gN hf
  have hnt:cY P f=fd.ntmps:=by simp [cY,hf]
  refine⟨_,.refl _ _,ρ,_,CS,w,[],S,rfl,hs,hres,hg,⟨rfl,⟨fd,hf⟩,rfl,by cases dfr with | round l=>exact hnr.elim | _=>rfl,.nil⟩,rfl,?_,hcs,hbot⟩
  refine .plain ?_ ?_
  ·have:=Bg (ρ:=ρ) hr (n:=cY P f) hle
   simp only [Frame.enter,hp,Option.map_some,Option.getD_some]
   rw [hnt] at this ⊢
   simpa using this
  ·simp only [Frame.enter,hp,Option.bind_some,hbd,Option.getD_some]
   exact .cons (.code c) .nil
omit [Hook] in
theorem iA:∀ (ops:List Oper) (r:ST) (n s:Nat),(Slots.mk n (po ops r)).get s=.junk∨((Slots.mk n (po ops r)).get s=(Slots.mk n r).get s∧∀ o ∈ ops,o.dst≠some s)
 | [],r,n,s=>.inr ⟨rfl,by simp⟩
 | o::ops,r,n,s=>by
  unfold po
  cases hd:o.dst with
  | none=>
   rcases iA ops r n s with h | ⟨h1,h2⟩
   ·exact .inl h
   ·exact .inr ⟨h1,fun p hp=>by cases hp with | head=>rw [hd];simp | tail _ hp=>exact h2 p hp⟩
  | some d=>
   dsimp only
   rcases iA ops (r.set .junk (keyOf d)) n s with h | ⟨h1,h2⟩
   ·exact .inl h
   ·by_cases hds:d=s
    ·subst hds;left;rw [h1,Slots.get_set_same]
    ·right
     refine⟨by rw [h1,Slots.get_set_other _ _ _ _ _ hds],fun p hp=>?_⟩
     cases hp with
     | head=>rw [hd];simpa using hds
     | tail _ hp=>exact h2 p hp
omit [Hook] in
theorem SusRel.scrub{T:Slots}{k:List AItem}{t:Array Value}{l:List Item}(hs:SusRel P ρ R T k t l):TRel ρ (scrub k T) t:=by
 cases hs with
 | ops hT ho hk=>exact hT
 | range hT hl hk=>exact hT
 | dops hD hk=>
  rename_i all i rest A C ord k l
  obtain⟨n,r⟩:=T
  refine⟨hD.size,fun s=>?_⟩
  show Rel ρ ((Slots.mk n (po all r)).get s) _
  rcases iA all r n s with h | ⟨h1,h2⟩
  ·rw [h];exact .junk _
  ·rw [h1]
   refine hD.slots s fun j hj hjC hd=>?_
   unfold bt at hd
   cases hp:all[j]? with
   | none=>simp [hp] at hd
   | some p=>rw [hp] at hd;exact h2 p (List.mem_of_getElem? hp) hd
omit [Hook] in
theorem pW{T:Slots}{op:Op}{c:Call}(hop:op=.defer c):(∃ d h',gX P op T h=.defer d h')∨(∃ m,gX P op T h=.bad m):=by
 subst hop
 show (∃ d h',jH P c T h=.defer d h')∨(∃ m,jH P c T h=.bad m)
 unfold jH
 split
 ·split
  ·exact .inl ⟨_,_,rfl⟩
  ·exact .inr ⟨_,rfl⟩
 ·exact .inr ⟨_,rfl⟩
omit [Hook] in
theorem vM{ρ:Rho}:∀ (ps:List Nat) (args:List AV) (A:List Value) (T T':Slots) (t:Array Value),RelL ρ args A→TRel ρ T t→jP ps args T=some T'→
  A.length=ps.length∧TRel ρ T' ((ps.zip A).foldl (fun tmps x=>tmps.setIfInBounds x.1 x.2) t)
 | [],[],A,T,T',t,hr,hT,h=>by
  cases hr
  have:T=T':=by simpa [jP] using h
  subst this
  exact⟨rfl,hT⟩
 | [],_::_,A,T,T',t,hr,hT,h=>by simp [jP] at h
 | _::_,[],A,T,T',t,hr,hT,h=>by simp [jP] at h
 | p::ps,v::args,A,.mk n r,T',t,hr,hT,h=>by
  cases hr with
  | cons _ V _ R hv hr=>
   unfold jP at h
   cases hb:Nat.blt p n with
   | false=>simp [hb] at h
   | true=>
    simp only [hb,cond_true] at h
    obtain⟨h1,h2⟩:=vM ps args R _ T' (t.setIfInBounds p V) hr (hT.put (cb hb) hv) h
    exact⟨by simp [h1],by simpa using h2⟩
omit [Hook] in
theorem mZ(hs:Sim w0 ρ h w){l:Key}{L:Loc}(hl:ρ l=some L){st:LoopState}{p:Option Code}{f:Nat}{tm:Slots}{ps:List Nat}{a b:Code}{d:Key}(hg:h.get l=some (.loop st p f tm ps a b d)):
  ¬ w0.F L.B∧L.B < w.heap.size∧∃ t Ld,ρ d=some Ld∧TRel ρ tm t∧w.heap[L.B]?=some (.loop { state:=st,pending:=p,fn:=f,tmps:=t,params:=⟨ps⟩,assign:=a,body:=b,defers:=Ld.B }):=by
 obtain⟨o,ho,hlt,hr⟩:=hs.obj l L hl
 rw [hg] at ho;cases ho
 obtain⟨hN,t,Ld,h1,h2,h3⟩:=hr
 exact⟨hN,hlt,t,Ld,h1,h2,h3⟩
theorem sD(hX:Env P w0){fr:Frame}{CS:List Frame}{fn:Nat}{T:Slots}{it:AItem}{k:List AItem}{ds:List ADef}{dfr:FK}{cs:List AFrame}{ops:Array Oper}{i:Nat}{idx:List Nat}{l:List Item}{o:Oper}{r:Res}{next:AV→Heap→St}
  (hs:Sim w0 ρ h w) (hres:Resv ρ h (R++S)) (hg:Glob P ρ) (hb:FBase P ρ fn ds dfr fr) (hm:fr.mode=.run) (ht:fr.todo=.inRegion ops (i::idx)::l) (ho:ops[i]?=some o) (hw:Region.wanted o (yielded ops fr.tmps)=true)
  (hsus:SusRel P ρ R T (it::k) fr.tmps fr.todo) (hcs:CsRel P CS0 ρ S cs CS) (hbot:gL fn dfr cs=(f0,.normal)) (hn:NextOk P w0 ρ h w (execOp fr.eval o) r) (hx:∃ Tm,r=gX P o.op Tm h∨r=c9 P o.op Tm h)
  (hval:∀ ρ' h' w' v V,Sub ρ ρ'→Resv ρ' h' (R++S)→Sim w0 ρ' h' w'→Rel ρ' v V→Reach P w0 f0 CS0 (lone (fr.finish V) CS w') (next v h')):
  Reach P w0 f0 CS0 (lone fr CS w) (EG P r T (it::k) (.mk fn ds dfr cs) next):=by
 have hnd:(∀ d h',r≠.defer d h')→(∀ m,r≠.bad m)→fr.roundOf=none∨∀ c,o.op≠.defer c:=by
  intro h1 h2
  obtain⟨Tm,hx⟩:=hx
  refine .inr fun c hc=>?_
  have hxA:r=gX P o.op Tm h:=by
   rcases hx with hx | hx
   ·exact hx
   ·rw [hx];unfold c9
    rcases pW (P:=P) (h:=h) (T:=Tm) hc with ⟨d,h',e⟩ | ⟨m,e⟩<;>rw [e]<;>rfl
  rcases pW (P:=P) (h:=h) (T:=Tm) hc with ⟨d,h',e⟩ | ⟨m,e⟩
  ·exact h1 d h' (by rw [hxA,e])
  ·exact h2 m (by rw [hxA,e])
 cases r with
 | val v h'=>
  have hnd2:=hnd (by simp) (by simp)
  clear hnd
  obtain⟨ρ',w',hsub,hkept,hs',hc⟩:=hn
  rcases hc with ⟨V,hv,hrun⟩ | ⟨rfl,hrun⟩
  ·exact .of_steps (.one (ji hm hnd2 ht ho hw hrun)) (hval ρ' h' w' v V hsub (hres.kept hkept) hs' hv)
  ·exact .of_steps (.one (wY hm hnd2 ht ho hw hrun)) (hval ρ' h' w' _ Go.undef hsub (hres.kept hkept) hs' .undef)
 | enter f args h'=>
  have hnd:=hnd (by simp) (by simp)
  obtain⟨rfl,A,hA,hrun⟩:=hn
  show Reach P w0 f0 CS0 _ (dP P f args (.mk fn T (it::k) ds .run dfr) cs h')
  have hsum:∀ v h2,sumA (bJ f) args h'=some (v,h2)→Reach P w0 f0 CS0 (lone fr CS w) (finish (.mk fn T (it::k) ds .run dfr) v cs h2):=by
   intro v h2 he
   obtain⟨hc,hcalls⟩:=hX.sum f ρ h' w args A v h2 hs hA he
   rw [hc] at hrun
   refine .of_steps (.one (zm hm hnd ht ho hw hrun)) ?_
   obtain⟨e,w',fr',⟨ρ',V,rfl,hsub,hkept,hv,hs'⟩,hcomes,_,hl⟩:=hcalls (fr::CS)
   refine .of_steps hcomes ?_
   refine .of_steps (.one (step_leave_returned hl)) ?_
   exact bE hs' (hres.kept hkept) (hg.mono hsub) (hb.mono hsub) hm (hsus.mono hsub) (hcs.mono hsub) hbot hv
  have h0:Reach P w0 f0 CS0 (lone fr CS w) (oc P f args (.mk fn T (it::k) ds .run dfr) cs h')→Reach P w0 f0 CS0 (lone fr CS w) (dP P f args (.mk fn T (it::k) ds .run dfr) cs h'):=by
   intro h0
   unfold dP
   cases hk:bJ f with
   | zero=>exact h0
   | succ n=>
    show Reach P w0 f0 CS0 _ (jO P f args _ cs h' (sumA (n+1) args h'))
    unfold jO
    split
    ·rename_i v h2 he;exact hsum v h2 (by rw [hk];exact he)
    ·exact h0
  refine h0 ?_
  unfold oc
  cases hbd:bodyOf P f with
  | some c=>
   rw [eN hbd] at hrun
   refine .of_steps (.one (zm hm hnd ht ho hw hrun)) ?_
   exact fO (dfr:=.normal) trivial hs hres hg (.cons (.run hb hm hsus) hcs) hA hbd hbot
  | none=>
   show Reach P w0 f0 CS0 _ (o9 P f args (.mk fn T (it::k) ds .run dfr) cs h')
   unfold o9
   cases hf:jN P f with
   | none=>exact trivial
   | some fd=>
    have hfb:fd.body=none:=by simpa [bodyOf,hf] using hbd
    dsimp only
    cases he:I6 P f fd args h' with
    | val v h2=>
     obtain⟨ρ',V,w',hsub,hkept,hs',hv,hrun'⟩:=hX.ext f fd hf hfb w0 ρ h' w args A v h2 hs hA he
     rw [hrun'] at hrun
     refine .of_steps (.one (ji hm hnd ht ho hw hrun)) ?_
     exact bE hs' (hres.kept hkept) (hg.mono hsub) (hb.mono hsub) hm (hsus.mono hsub) (hcs.mono hsub) hbot hv
    | _=>exact trivial
 | round lk args h'=>
  have hnd:=hnd (by simp) (by simp)
  obtain⟨rfl,L,A,hL,hA,hrun⟩:=hn
  show Reach P w0 f0 CS0 _ (mj P lk args (.mk fn T (it::k) ds .run dfr) cs h')
  unfold mj
  cases hgl:h'.get lk with
  | none=>exact trivial
  | some ob=>
   cases ob with
   | loop st p fl tm ps a b d=>
    dsimp only
    cases hpa:jP ps args tm with
    | none=>exact trivial
    | some T'=>
     cases hfl:jN P fl with
     | none=>exact trivial
     | some fd=>
      dsimp only
      obtain⟨_,_,t,Ld,hd,hTl,hO⟩:=mZ hs hL hgl
      obtain⟨hlen,hT'⟩:=vM ps args A tm T' t hA hTl hpa
      have hy:(Instr.yield L.B ⟨A⟩).run P w=.ok (.round L.B fl (((⟨ps⟩:Array Nat).zip ⟨A⟩).foldl (fun tmps x=>tmps.setIfInBounds x.1 x.2) t) a b) w:=by
       simp [Instr.yield,Instr.getLoop,ai hO (by simp),hlen]
      rw [hy] at hrun
      refine .of_steps (.one (FG hm hnd ht ho hw hrun)) ?_
      refine⟨_,.refl _ _,ρ,_,fr::CS,w,[],R++S,rfl,hs,hres,hg,⟨rfl,⟨fd,hfl⟩,rfl,⟨L,hL,rfl⟩,.nil⟩,rfl,.plain ?_ (.cons (.code a) (.cons .beginRound (.cons (.code b) .nil))),.cons (.run hb hm hsus) hcs,hbot⟩
      have:((⟨ps⟩:Array Nat).zip ⟨A⟩).foldl (fun tmps x=>tmps.setIfInBounds x.1 x.2) t=(ps.zip A).foldl (fun tmps x=>tmps.setIfInBounds x.1 x.2) t:=by
       rw [←Array.foldl_toList];simp
      show TRel ρ T' (((⟨ps⟩:Array Nat).zip ⟨A⟩).foldl (fun tmps x=>tmps.setIfInBounds x.1 x.2) t)
      rw [this];exact hT'
   | _=>exact trivial
 | defer d h'=>
  obtain⟨rfl,D,hD,hrun⟩:=hn
  have hrd:=hb.round
  cases dfr with
  | round l=>exact trivial
  | normal=>
   refine .of_steps (.one (zo hm hrd ht ho hw hrun)) ?_
   exact bE (am:=.run) (fr:={ fr with defers:=D::fr.defers }) hs hres hg ⟨hb.name,hb.fd,hb.kind,hb.round,.cons _ _ _ _ hD hb.defers⟩ hm hsus hcs hbot .undef
  | deferred=>
   refine .of_steps (.one (zo hm hrd ht ho hw hrun)) ?_
   exact bE (am:=.run) (fr:={ fr with defers:=D::fr.defers }) hs hres hg ⟨hb.name,hb.fd,hb.kind,hb.round,.cons _ _ _ _ hD hb.defers⟩ hm hsus hcs hbot .undef
 | recover h'=>
  obtain⟨rfl,hrun⟩:=hn
  have hrd:=hb.round
  have hk:=hb.kind
  cases dfr with
  | round l=>exact trivial
  | normal=>
   have hst:=te (CS:=CS) hm hrd ht ho hw hrun
   have htr:tryRecover fr CS=none:=by unfold tryRecover;rw [hk];rfl
   rw [htr] at hst
   exact .of_steps (.one hst) (bE (am:=.run) hs hres hg hb hm hsus hcs hbot .nilIface)
  | deferred=>
   have hst:=te (CS:=CS) hm hrd ht ho hw hrun
   show Reach P w0 f0 CS0 _ (mi (.mk fn T (it::k) ds .run .deferred) cs h')
   unfold mi
   cases hcs with
   | nil=>exact trivial
   | cons hf hr=>
    rename_i a b cs' CS' R1 S1
    have hk':fr.kind=.deferred:=hk
    have nope:tryRecover fr (b::CS')=none→∀ m,Reach P w0 f0 CS0 (lone fr (b::CS') w) (finish (.mk fn T (it::k) ds m .deferred) .nilIface (a::cs') h'):=by
     intro htr m
     rw [htr] at hst
     exact .of_steps (.one hst) (bE hs hres hg hb hm hsus (.cons hf hr) hbot .nilIface)
    cases hf with
    | run hb2 hm2 hs2=>
     refine nope ?_ _
     unfold tryRecover;rw [hk'];dsimp only;rw [hm2]
    | un hb2 hn2 hm2 hT2=>
     generalize hmb:b.mode=mb at hm2
     cases hm2 with
     | returning=>
      refine nope ?_ _
      unfold tryRecover;rw [hk'];dsimp only;rw [hmb]
     | panicking hch=>
      cases hch with
      | nil=>
       refine nope ?_ _
       unfold tryRecover;rw [hk'];dsimp only;rw [hmb]
      | cons v V bb r R hv hr2=>
       cases bb with
       | true=>
        refine nope ?_ _
        unfold tryRecover;rw [hk'];dsimp only;rw [hmb]
       | false=>
        have htr:tryRecover fr (b::CS')=some (V,{ b with mode:=.panicking ({ v:=V,recovered:=true }::R) }::CS'):=by
         unfold tryRecover;rw [hk'];dsimp only;rw [hmb]
        rw [htr] at hst
        refine .of_steps (.one hst) ?_
        exact bE hs hres hg hb hm hsus (.cons (.un ⟨hb2.name,hb2.fd,hb2.kind,hb2.round,hb2.defers⟩ hn2 (.panicking (.cons v V true r R hv hr2)) hT2) hr) hbot hv
 | pan v h'=>
  obtain⟨rfl,V,hv,hrun⟩:=hn
  have hrd:=hb.round
  have hra:fr.raise [{ v:=V,recovered:=false }]={ fr with mode:=.panicking [{ v:=V,recovered:=false }] }:=by unfold Frame.raise;rw [hm]
  have fin:gK dfr→fr.roundOf=none→Reach P w0 f0 CS0 (lone fr CS w) (.un (.panicking [(v,false)]) (scrub (it::k) T) (.mk fn ds dfr cs) h'):=by
   intro hnr hro
   have hst:=FE (P:=P) (CS:=CS) hm hro ht ho hw hrun
   rw [hra] at hst
   exact⟨_,.one hst,ρ,_,CS,w,S,rfl,hs,hres.right,hg,⟨hb.name,hb.fd,hb.kind,hb.round,hb.defers⟩,hnr,.panicking (.cons v V false [] [] hv .nil),hsus.scrub,hcs,hbot⟩
  cases dfr with
  | round l=>exact trivial
  | normal=>exact fin trivial hrd
  | deferred=>exact fin trivial hrd
 | alts l=>
  have hnd:=hnd (by simp) (by simp)
  obtain⟨p,hp,ρ',V,w',hsub,hkept,hs',hv,hrun⟩:=hn
  exact⟨p,hp,ρ',fr,CS,w',V,R,S,.one (ji hm hnd ht ho hw hrun),hs',hres.kept hkept,hg.mono hsub,hb.mono hsub,hm,hsus.mono hsub,hcs.mono hsub,hbot,hv⟩
 | bad m=>exact trivial
end
end Go.VM
namespace Go.VM
section
variable {P:Program} {w0:Base} {f0:Nat} {CS0:List Frame} [Hook]
theorem lp(hP:TypesOk P)(hX:Env P w0){all:List Oper}{k:List AItem}{l:List Item}{CS:List Frame}{cs:List AFrame}{fn:Nat}{ds:List ADef}{dfr:FK}{S:List (Nat × Key × AObj)}(hk:KRel k l)(hbot:gL fn dfr cs=(f0,.normal)):
  ∀ (rest:List Oper) (i:Nat) (ρ:Rho) (h:Heap) (w:World) (T:Slots) (fr:Frame),rest=all.drop i→Sim w0 ρ h w→Resv ρ h S→Glob P ρ→CsRel P CS0 ρ S cs CS→FBase P ρ fn ds dfr fr→fr.mode=.run→fr.todo=.inRegion ⟨all⟩ ((List.range all.length).drop i)::l→TRel ρ T fr.tmps→
   Reach P w0 f0 CS0 (lone fr CS w) (gc P all k (.mk fn ds dfr cs) rest T h):=by
 intro rest
 induction rest with
 | nil=>
  intro i ρ h w T fr hrest hs hres hg hcs hb hm ht hT
  have hi:all.length≤i:=by
   rcases Nat.lt_or_ge i all.length with h' | h'
   ·rw [List.drop_eq_getElem_cons h'] at hrest;cases hrest
   ·exact h'
  have:(List.range all.length).drop i=[]:=List.drop_eq_nil_of_le (by simpa using hi)
  rw [this] at ht
  exact⟨_,.one (lw hm ht),ρ,_,CS,w,[],S,rfl,hs,hres,hg,⟨hb.name,hb.fd,hb.kind,hb.round,hb.defers⟩,hm,.plain hT hk,hcs,hbot⟩
 | cons o rest ih=>
  intro i ρ h w T fr hrest hs hres hg hcs hb hm ht hT
  obtain⟨hlt,hoi,hrest'⟩:=vL hrest.symm
  have ht0:=ht
  rw [sC hlt] at ht
  have ho':(⟨all⟩:Array Oper)[i]?=some o:=by simpa using hoi
  have hdst:((⟨all⟩:Array Oper)[i]?).bind (·.dst)=o.dst:=by simp [hoi]
  have cont:∀ ρ' h' w' v V,Sub ρ ρ'→Resv ρ' h' ([]++S)→Sim w0 ρ' h' w'→Rel ρ' v V→Reach P w0 f0 CS0 (lone (fr.finish V) CS w') (hG T o.dst v (fun T=>gc P all k (.mk fn ds dfr cs) rest T h')):=by
   intro ρ' h' w' v V hsub hres' hs' hv
   refine dZ fun hd=>?_
   rw [gQ ht,hdst]
   exact ih (i+1) ρ' h' w' (putA T o.dst v) _ hrest' hs' hres' (hg.mono hsub) (hcs.mono hsub) (⟨hb.name,hb.fd,hb.kind,hb.round.mono hsub,hb.defers.mono hsub⟩) hm rfl ((hT.mono hsub).putA hd hv)
  show Reach P w0 f0 CS0 _ (Dl P o (.ops all (o::rest)) k (.mk fn ds dfr cs) T T h (gc P all k (.mk fn ds dfr cs) rest) (bd o.guard all T))
  unfold Dl
  cases hgu:bd o.guard all T with
  | none=>exact trivial
  | some b=>
   have hw:=jj hT hgu
   cases b with
   | false=>exact .of_steps (.one (lV hm ht ho' hw)) (cont ρ h w .undef Go.undef (Sub.refl _) hres hs .undef)
   | true=>
    exact sD (R:=[]) hX hs hres hg hb hm ht ho' hw (by rw [ht0];exact .ops hT hrest.symm hk) hcs hbot (mL hP hs (gP hg hT) o) ⟨T,.inl rfl⟩ cont
theorem jd(hP:TypesOk P)(hX:Env P w0){all:List Oper}{k:List AItem}{l:List Item}{CS:List Frame}{cs:List AFrame}{fn:Nat}{ds:List ADef}{dfr:FK}{S:List (Nat × Key × AObj)}(hk:KRel k l)(hbot:gL fn dfr cs=(f0,.normal)):
  ∀ (plan:List PStep) (A C ord:List Nat) (ρ:Rho) (h:Heap) (w:World) (T:Slots) (fr:Frame) (R:List (Nat × Key × AObj)),Sim w0 ρ h w→Resv ρ h (R++S)→Glob P ρ→CsRel P CS0 ρ S cs CS→FBase P ρ fn ds dfr fr→fr.mode=.run→fr.todo=.inRegion ⟨all⟩ ord::l→DInv P ρ h R all plan A C ord T fr.tmps→
   Reach P w0 f0 CS0 (lone fr CS w) (ca P all k (.mk fn ds dfr cs) plan T h):=by
 intro plan
 induction plan with
 | nil=>
  intro A C ord ρ h w T fr R hs hres hg hcs hb hm ht hD
  have hfr:fr=fV fr fr.tmps all ord l:=by unfold fV;rw [←ht]
  obtain⟨ρ',w',t',hsub,hres',hs',hsteps,hT⟩:=FL (CS:=CS) (k:=l) hP hm ord ρ w fr.tmps C R hg hs hres hD
  rw [←hfr] at hsteps
  exact⟨_,hsteps,ρ',_,CS,w',[],S,rfl,hs',hres',hg.mono hsub,(⟨hb.name,hb.fd,hb.kind,hb.round.mono hsub,hb.defers.mono hsub⟩),hm,.plain hT hk,hcs.mono hsub,hbot⟩
 | cons st rest ih=>
  intro A C ord ρ h w T fr R hs hres hg hcs hb hm ht hD
  have hfr:fr=fV fr fr.tmps all ord l:=by unfold fV;rw [←ht]
  cases st with
  | chk j=>
   show Reach P w0 f0 CS0 _ (GH P j all T h (ca P all k (.mk fn ds dfr cs) rest))
   unfold GH
   rw [oX]
   cases hoj:all[j]? with
   | none=>exact trivial
   | some o=>
    dsimp only
    cases hc:A0 P o all T h with
    | false=>exact trivial
    | true=>
     have hmo:bL o.op=false:=by have:=(sB hD.ok).1;simpa [fB,hoj] using this
     refine ih A C ord ρ h w T fr R hs hres hg hcs hb hm ht (hD.asked fun hA hC=>Fk hoj ?_ hmo hc)
     exact tf hoj (hD.quiet j hA hC)
  | op i=>
   show Reach P w0 f0 CS0 _ (opD P i rest all k (.mk fn ds dfr cs) T h (ca P all k (.mk fn ds dfr cs) rest))
   obtain⟨o,ho,hiA,hea,_,_,_⟩:=kE hD.ok
   unfold opD
   rw [oX,ho]
   dsimp only
   unfold opM xO
   have hdo:bt all i=o.dst:=by simp [bt,ho]
   have ho':(⟨all⟩:Array Oper)[i]?=some o:=by simpa using ho
   have hdst:((⟨all⟩:Array Oper)[i]?).bind (·.dst)=bt all i:=by simp [bt]
   cases hgu:bd o.guard all (ao (ah o) all T) with
   | none=>exact trivial
   | some b=>
    cases hact:cP P all i with
    | false=>
     have quiet:∀ v,((bd o.guard all (ao (ah o) all T)=some true∧c9 P o.op (ao (ah o) all T) h=.val v h)∨(bd o.guard all (ao (ah o) all T)=some false∧v=.undef))→
       Reach P w0 f0 CS0 (lone fr CS w) (hG T o.dst v (fun T=>ca P all k (.mk fn ds dfr cs) rest T h)):=fun v hv=>
      dZ fun hd=>ih (i::A) C ord ρ h w _ fr R hs hres hg hcs hb hm ht (hD.quietOp ho hact hd hv)
     cases b with
     | false=>exact quiet .undef (.inr ⟨hgu,rfl⟩)
     | true=>
      dsimp only
      cases hmo:bL o.op with
      | false=>
       rcases pZ (P:=P) (h:=h) (T:=ao (ah o) all T) o.op (tf ho hact) hmo with ⟨v,hv⟩ | ⟨m,hv⟩
       ·rw [hv];exact quiet v (.inl ⟨hgu,hv⟩)
       ·rw [hv];exact trivial
      | true=>
       rcases zv (P:=P) hmo (ao (ah o) all T) with ⟨ob,vf,hmk⟩ | hbad
       ·rw [hmk h]
        obtain⟨tr,nx⟩:=h
        cases hgn:tr.get nx with
        | some x=>
         have:(Heap.mk tr nx).alloc ob (fun b h=>Res.val (vf b) h)=.bad "key":=by
          show Heap.allocT tr nx ob (fun b h=>Res.val (vf b) h)=.bad "key"
          unfold Heap.allocT;rw [hgn]
         rw [this];exact trivial
        | none=>
         have:(Heap.mk tr nx).alloc ob (fun b h=>Res.val (vf b) h)=.val (vf nx) (.mk (tr.set ob nx) (bV nx)):=by
          show Heap.allocT tr nx ob (fun b h=>Res.val (vf b) h)=.val (vf nx) (.mk (tr.set ob nx) (bV nx))
          unfold Heap.allocT;rw [hgn]
         rw [this]
         have hno:ρ nx=none:=hs.none_of_get hgn
         have hoth:∀ k,k≠nx→(Heap.mk (tr.set ob nx) (bV nx)).get k=(Heap.mk tr nx).get k:=fun k hk=>RT.get_set_other ob nx k tr (Ne.symm hk)
         show Reach P w0 f0 CS0 (lone fr CS w) (hG T o.dst (vf nx) (fun T=>ca P all k (.mk fn ds dfr cs) rest T (.mk (tr.set ob nx) (bV nx))))
         refine dZ fun hd=>ih (i::A) C ord ρ _ w _ fr ((i,nx,ob)::R) (hs.ext fun b L e=>hoth b (fun e2=>by rw [e2,hno] at e;cases e)) ?_ hg hcs hb hm ht (hD.madeHere ho hact hmo hd hgu hmk)
         exact hres.cons hgn hno (RT.get_set_same ob nx tr) hoth
       ·obtain⟨m,hbad⟩:=hbad h
        rw [hbad];exact trivial
    | true=>
     obtain⟨ρ1,w1,t1,C1,ord1,R1,hsub,hres1,hs1,hsteps,hD1⟩:=HP (CS:=CS) (k:=l) (rest:=rest) hP hm ho hact ord ρ w fr.tmps C R hg hs hres hD
     rw [←hfr] at hsteps
     refine .of_steps hsteps ?_
     have he:∀ x ∈ ah o,x ∈ C1:=by
      cases hD1.topo with
      | cons ho2 hi he hr=>rw [ho] at ho2;cases ho2;exact he
     have hTm:=hD1.masked he
     have hw:=jj hTm hgu
     have hsus:=hD1.suspend ho hact
     have hb1:FBase P ρ1 fn ds dfr (fV fr t1 all (i::ord1) l):=(⟨hb.name,hb.fd,hb.kind,hb.round.mono hsub,hb.defers.mono hsub⟩)
     have cont:∀ ρ' h' w' v V,Sub ρ1 ρ'→Resv ρ' h' (R1++S)→Sim w0 ρ' h' w'→Rel ρ' v V→Reach P w0 f0 CS0 (lone ((fV fr t1 all (i::ord1) l).finish V) CS w') (hG T o.dst v (fun T=>ca P all k (.mk fn ds dfr cs) rest T h')):=by
      intro ρ' h' w' v V hsub' hres' hs' hv
      rw [←hdo]
      refine dZ fun hd=>?_
      rw [gQ (fr:=fV fr t1 all (i::ord1) l) rfl,hdst]
      exact ih (i::A) (i::C1) ord1 ρ' h' w' _ _ R1 hs' hres' ((hg.mono hsub).mono hsub') ((hcs.mono hsub).mono hsub') ⟨hb.name,hb.fd,hb.kind,(hb.round.mono hsub).mono hsub',(hb.defers.mono hsub).mono hsub'⟩ hm rfl ((hsus.mono hsub').resume hd hv)
     cases b with
     | false=>exact .of_steps (.one (lV (fr:=fV fr t1 all (i::ord1) l) hm rfl ho' hw)) (cont ρ1 h w1 .undef Go.undef (Sub.refl _) hres1 hs1 .undef)
     | true=>exact sD hX hs1 hres1 (hg.mono hsub) hb1 hm rfl ho' hw (.dops hsus hk) (hcs.mono hsub) hbot (sL (mL hP hs1 (gP (hg.mono hsub) hTm) o)) ⟨_,.inr rfl⟩ cont
end
end Go.VM
namespace Go.VM
theorem Fo{id:Nat}{k:List AItem}{l:List Item}(hk:KRel k l):∀ {k':List AItem},o7 id k=some k'→∃ l',exitTo id l=some l'∧KRel k' l':=by
 induction hk with
 | nil=>intro k' h;cases h
 | cons hi hr ih=>
  rename_i a b k l
  intro k' h
  cases hi with
  | code c=>unfold exitTo;exact ih h
  | inLoop c=>unfold exitTo;exact ih h
  | inScope c=>unfold exitTo;exact ih h
  | beginRound=>unfold exitTo;exact ih h
  | inBlock j=>
   have h':cond (Nat.beq j id) (some k) (o7 id k)=some k':=h
   unfold exitTo
   cases hb:Nat.beq j id with
   | true=>
    rw [hb] at h'
    have e:=Nat.eq_of_beq_eq_true hb
    subst e
    have:k=k':=by simpa using h'
    subst this
    exact⟨_,by simp,hr⟩
   | false=>
    rw [hb] at h'
    have hne:(j == id)=false:=by rw [beq_eq_false_iff_ne];intro e;subst e;simp at hb
    rw [hne]
    exact ih h'
theorem Fp{lb:Nat}{k:List AItem}{l:List Item}(hk:KRel k l):∀ {k':List AItem},dp lb k=some k'→∃ l',gotoIn lb l=some l'∧KRel k' l':=by
 induction hk with
 | nil=>intro k' h;simp [dp] at h
 | cons hi hr ih=>
  rename_i a b k l
  intro k' h
  cases hi with
  | code c=>unfold gotoIn;unfold dp at h;exact ih h
  | inLoop c=>unfold gotoIn;unfold dp at h;exact ih h
  | inBlock c=>unfold gotoIn;unfold dp at h;exact ih h
  | beginRound=>unfold gotoIn;unfold dp at h;exact ih h
  | inScope c=>
   unfold dp at h
   unfold gotoIn
   cases hf:findLabel c lb with
   | none=>rw [hf] at h;exact ih h
   | some r=>
    rw [hf] at h
    have:(.code r::.inScope c::k)=k':=by simpa using h
    subst this
    exact⟨_,rfl,.cons (.code r) (.cons (.inScope c) hr)⟩
theorem dx:∀ {l:List Nat},gu l=true→l.Nodup
 | [],_=>List.nodup_nil
 | i::r,h=>by
  unfold gu at h
  cases hb:aw i r with
  | true=>rw [hb] at h;cases h
  | false=>
   rw [hb] at h
   exact List.nodup_cons.2 ⟨fun hm=>(by rw [aY.2 hm] at hb;cases hb),dx h⟩
theorem sE:∀ {ops:List Oper} {i d:Nat},bt ops i=some d→d ∈ eJ ops
 | [],i,d,h=>by simp [bt] at h
 | o::r,0,d,h=>by
  have:o.dst=some d:=by simpa [bt] using h
  unfold eJ;rw [this];simp
 | o::r,i+1,d,h=>by
  have h':bt r i=some d:=by simpa [bt] using h
  have:=sE h'
  unfold eJ
  split
  ·exact List.mem_cons_of_mem _ this
  ·exact this
theorem CD:∀ {ops:List Oper},(eJ ops).Nodup→∀ i j d,bt ops i=some d→bt ops j=some d→i=j
 | [],_,i,j,d,h,_=>by simp [bt] at h
 | o::r,hn,i,j,d,hi,hj=>by
  have hn':(eJ r).Nodup:=by
   unfold eJ at hn
   split at hn
   ·exact (List.nodup_cons.1 hn).2
   ·exact hn
  have key:o.dst=some d→∀ m,bt r m=some d→False:=by
   intro hd m hm
   unfold eJ at hn
   rw [hd] at hn
   exact (List.nodup_cons.1 hn).1 (sE hm)
  cases i with
  | zero=>
   have hd:o.dst=some d:=by simpa [bt] using hi
   cases j with
   | zero=>rfl
   | succ j=>exact (key hd j (by simpa [bt] using hj)).elim
  | succ i=>
   cases j with
   | zero=>exact (key (by simpa [bt] using hj) i (by simpa [bt] using hi)).elim
   | succ j=>
    have:=CD hn' i j d (by simpa [bt] using hi) (by simpa [bt] using hj)
    omega
section
variable {P:Program} {w0:Base} {f0:Nat} {CS0:List Frame} [Hook]
omit [Hook] in
theorem yS{all:List Oper}{p:List PStep}(h:mo P all=some p):dc P all (ep all []) [] p=true∧cn 0 all=true∧(eJ all).Nodup:=by
 unfold mo at h
 cases hg:ux P all (ep all []) (all.length+1) [] (mn all.length).reverse with
 | none=>simp [hg] at h
 | some q=>
  rw [hg] at h
  dsimp only at h
  cases hc:(dc P all (ep all []) [] q && cn 0 all && gu (eJ all)) with
  | false=>rw [hc] at h;cases h
  | true=>
   rw [hc] at h
   have:q=p:=by simpa using h
   subst this
   simp only [Bool.and_eq_true] at hc
   exact⟨hc.1.1,hc.1.2,dx hc.2⟩
omit [Hook] in
theorem pX{ρ:Rho}{h:Heap}{w:World}{T:Slots}{fr:Frame}{CS:List Frame}{cs:List AFrame}{fn:Nat}{ds:List ADef}{dfr:FK}{f:Operand}{ps:Array Nat}{a b:Code}{k:List AItem}{l:List Item}{S:List (Nat × Key × AObj)}(_hnr:gK dfr)(hbot:gL fn dfr cs=(f0,.normal))
  (hs:Sim w0 ρ h w) (hres:Resv ρ h S) (hg:Glob P ρ) (hcs:CsRel P CS0 ρ S cs CS) (hb:FBase P ρ fn ds dfr fr) (hrd:fr.roundOf=none) (hm:fr.mode=.run) (ht:fr.todo=.code (.rangeFunc f ps a b)::l) (hk:KRel k l) (hT:TRel ρ T fr.tmps):
  Reach P w0 f0 CS0 (lone fr CS w) (xR P f ps.toList a b T k fn ds dfr cs h):=by
 obtain⟨t,nx⟩:=h
 unfold xR
 dsimp only
 cases h1:t.get nx with
 | some _=>exact trivial
 | none=>
  cases h2:(t.set (.deferred []) nx).get (bV nx) with
  | some _=>exact trivial
  | none=>
   dsimp only
   have s1:Sim w0 (ρ.add nx ⟨w.heap.size,0,0⟩) ((Heap.mk t nx).put nx (.deferred [])) (w.alloc (.deferred (some []))):=hs.alloc (L:=⟨w.heap.size,0,0⟩) h1 rfl ⟨hs.new,[],.nil,rfl⟩
   have hn1:=hs.none_of_get (b:=nx) h1
   have k1:Kept ρ (Heap.mk t nx) (ρ.add nx ⟨w.heap.size,0,0⟩) ((Heap.mk t nx).put nx (.deferred [])):=eZ h1
   have sub1:Sub ρ (ρ.add nx ⟨w.heap.size,0,0⟩):=Rho.sub_add hn1
   have hn2:=s1.none_of_get (b:=bV nx) h2
   have sub2:Sub (ρ.add nx ⟨w.heap.size,0,0⟩) ((ρ.add nx ⟨w.heap.size,0,0⟩).add (bV nx) ⟨w.heap.size+1,0,0⟩):=Rho.sub_add hn2
   have s2:Sim w0 ((ρ.add nx ⟨w.heap.size,0,0⟩).add (bV nx) ⟨w.heap.size+1,0,0⟩) (((Heap.mk t nx).put nx (.deferred [])).put (bV nx) (.loop .ready none fn T ps.toList a b nx)) ((w.alloc (.deferred (some []))).alloc (.loop { state:=.ready,pending:=none,fn:=fn,tmps:=fr.tmps,params:=ps,assign:=a,body:=b,defers:=w.heap.size })):=by
    refine s1.alloc (L:=⟨w.heap.size+1,0,0⟩) h2 (by simp) ⟨(by have:=s1.new;simpa using this),fr.tmps,⟨w.heap.size,0,0⟩,sub2 _ _ (Rho.add_same _ _ _),(hT.mono sub1).mono sub2,by simp⟩
   have hres2:Resv ((ρ.add nx ⟨w.heap.size,0,0⟩).add (bV nx) ⟨w.heap.size+1,0,0⟩) (((Heap.mk t nx).put nx (.deferred [])).put (bV nx) (.loop .ready none fn T ps.toList a b nx)) S:=(hres.kept k1).kept (eZ h2)
   generalize hρ2:(ρ.add nx ⟨w.heap.size,0,0⟩).add (bV nx) ⟨w.heap.size+1,0,0⟩=ρ2 at *
   have hlk:ρ2 (bV nx)=some ⟨w.heap.size+1,0,0⟩:=by rw [←hρ2];exact Rho.add_same _ _ _
   have hdk:ρ2 nx=some ⟨w.heap.size,0,0⟩:=sub2 _ _ (Rho.add_same _ _ _)
   have sub:Sub ρ ρ2:=sub1.trans sub2
   have hrun:(Instr.enterLoop fr.fn fr.tmps ps a b none).run P w=.ok (w.heap.size+1,[{ target:=.collected w.heap.size,args:=#[] }]) ((w.alloc (.deferred (some []))).alloc (.loop { state:=.ready,pending:=none,fn:=fn,tmps:=fr.tmps,params:=ps,assign:=a,body:=b,defers:=w.heap.size })):=by
    rw [hb.name]
    simp [Instr.enterLoop]
   generalize hw2:(w.alloc (.deferred (some []))).alloc (.loop { state:=.ready,pending:=none,fn:=fn,tmps:=fr.tmps,params:=ps,assign:=a,body:=b,defers:=w.heap.size })=w2 at *
   unfold wv
   have hf:=gP (fr:=fr) hg hT f
   generalize ev P T f=fa at hf
   generalize hFe:fr.eval f=F at hf
   cases hf with
   | func g first cap A1 B1 hfi hca=>
    dsimp only
    cases hbd:bodyOf P g with
    | none=>exact trivial
    | some c=>
     dsimp only
     have hcall:(do let d ←Deferred.ofValue (fr.eval f) #[.func (.yield (w.heap.size+1)) #[] #[]];invoke d.target d.args:Sem Next).run P w2=.ok (.enter g ⟨A1++([.func (.yield (w.heap.size+1)) #[] #[]]++B1)⟩) w2:=by
      rw [hFe]
      have:=eN (P:=P) (w:=w2) (A:=A1++([.func (.yield (w.heap.size+1)) #[] #[]]++B1)) hbd
      simpa [Deferred.ofValue,invoke] using this
     refine .of_steps (.one (FI hm hrd ht hrun hcall)) ?_
     have hres2':Resv ρ2 (.mk ((t.set (.deferred []) nx).set (.loop .ready none fn T ps.toList a b nx) (bV nx)) (bV (bV nx))) ([]++S):=⟨hres2.nodup,hres2.none_,hres2.obj⟩
     refine fO (dfr:=.normal) trivial ⟨s2.os,s2.out,s2.size,s2.old,s2.sub,s2.obj,s2.inj⟩ (S:=[]++S) hres2' (hg.mono sub) (.cons (.run ⟨hb.name,hb.fd,hb.kind,hb.round.mono sub,.cons _ _ _ _ (.mark nx _ hdk) (hb.defers.mono sub)⟩ hm (.range (L:=⟨w.heap.size+1,0,0⟩) (hT.mono sub) hlk hk)) (hcs.mono sub)) ?_ hbd hbot
     rw [aL,aL]
     exact (hfi.mono sub).append (.cons _ _ _ _ (.yield (bV nx) ⟨w.heap.size+1,0,0⟩ hlk) (hca.mono sub))
   | _=>exact trivial
theorem sF(hP:TypesOk P)(hX:Env P w0)(hF:P.follows .mixedOrders=true){CS:List Frame}{cs:List AFrame}{fn:Nat}{ds:List ADef}{dfr:FK}{S:List (Nat × Key × AObj)}(hbot:gL fn dfr cs=(f0,.normal)):
  ∀ (c:Code) (k:List AItem) (l:List Item) (ρ:Rho) (h:Heap) (w:World) (T:Slots) (fr:Frame),Sim w0 ρ h w→Resv ρ h S→Glob P ρ→CsRel P CS0 ρ S cs CS→FBase P ρ fn ds dfr fr→fr.mode=.run→fr.todo=.code c::l→KRel k l→TRel ρ T fr.tmps→
   Reach P w0 f0 CS0 (lone fr CS w) (fD P c T k (.mk fn ds dfr cs) h):=by
 intro c
 induction c with
 | skip=>
  intro k l ρ h w T fr hs hres hg hcs hb hm ht hk hT
  exact⟨_,.one (HH hm ht),ρ,_,CS,w,[],S,rfl,hs,hres,hg,⟨hb.name,hb.fd,hb.kind,hb.round,hb.defers⟩,hm,.plain hT hk,hcs,hbot⟩
 | region id ops draw=>
  intro k l ρ h w T fr hs hres hg hcs hb hm ht hk hT
  show Reach P w0 f0 CS0 _ (xQ P id ops draw T k (.mk fn ds dfr cs) h)
  unfold xQ
  cases draw with
  | false=>
   refine .of_steps (.one (Eu hm ht)) ?_
   refine lp hP hX hk hbot ops.toList 0 ρ h w T _ (by simp) hs hres hg hcs ⟨hb.name,hb.fd,hb.kind,hb.round,hb.defers⟩ hm ?_ hT
   simp
  | true=>
   dsimp only
   unfold xP
   cases hp:mo P ops.toList with
   | none=>exact trivial
   | some p=>
    obtain⟨h1,h2,h3⟩:=yS hp
    obtain⟨t,hst⟩:=HN (P:=P) (CS:=CS) (w:=w) hm ht
    rw [hF] at hst
    refine .of_steps (.one hst) ?_
    refine jd hP hX hk hbot p [] [] (Region.schedule true ops t) ρ h w.drew T _ [] hs.drew hres hg hcs ⟨hb.name,hb.fd,hb.kind,hb.round,hb.defers⟩ hm (by simp) ?_
    exact⟨h2,CD h3,h1,v6 h2 t,fun i hi=>(by cases hi),fun i hi=>(by cases hi),fun i hi=>(by cases hi),fun i hi=>(by cases hi),fun i hi=>(by cases hi),fun i hi=>(by cases hi),hT.n,fun s _=>hT.at_ s,fun i hi=>(by cases hi)⟩
 | seq a b iha ihb=>
  intro k l ρ h w T fr hs hres hg hcs hb hm ht hk hT
  refine .of_steps (.one (Jf hm ht)) ?_
  exact iha (.code b::k) (.code b::l) ρ h w T _ hs hres hg hcs ⟨hb.name,hb.fd,hb.kind,hb.round,hb.defers⟩ hm rfl (.cons (.code b) hk) hT
 | cond x a b iha ihb=>
  intro k l ρ h w T fr hs hres hg hcs hb hm ht hk hT
  show Reach P w0 f0 CS0 _ (C0 P x a b (fD P a) (fD P b) T k (.mk fn ds dfr cs) h)
  unfold C0
  have hx:=gP (fr:=fr) hg hT x
  generalize ev P T x=xa at hx
  generalize hX':fr.eval x=XV at hx
  cases hx with
  | bool t=>
   refine .of_steps (.one (HI hm ht hX')) ?_
   cases t with
   | true=>exact iha k l ρ h w T _ hs hres hg hcs ⟨hb.name,hb.fd,hb.kind,hb.round,hb.defers⟩ hm (by simp) hk hT
   | false=>exact ihb k l ρ h w T _ hs hres hg hcs ⟨hb.name,hb.fd,hb.kind,hb.round,hb.defers⟩ hm (by simp) hk hT
  | _=>exact trivial
 | block id a iha=>
  intro k l ρ h w T fr hs hres hg hcs hb hm ht hk hT
  refine .of_steps (.one (FA hm ht)) ?_
  exact iha (.inBlock id::k) (.inBlock id::l) ρ h w T _ hs hres hg hcs ⟨hb.name,hb.fd,hb.kind,hb.round,hb.defers⟩ hm rfl (.cons (.inBlock id) hk) hT
 | loop a iha=>
  intro k l ρ h w T fr hs hres hg hcs hb hm ht hk hT
  exact⟨_,.one (HJ hm ht),ρ,_,CS,w,[],S,rfl,hs,hres,hg,⟨hb.name,hb.fd,hb.kind,hb.round,hb.defers⟩,hm,.plain hT (.cons (.code a) (.cons (.inLoop a) hk)),hcs,hbot⟩
 | rangeFunc f ps a b iha ihb=>
  intro k l ρ h w T fr hs hres hg hcs hb hm ht hk hT
  have hrd:=hb.round
  cases dfr with
  | round l=>exact trivial
  | normal=>exact pX trivial hbot hs hres hg hcs hb hrd hm ht hk hT
  | deferred=>exact pX trivial hbot hs hres hg hcs hb hrd hm ht hk hT
 | exit id=>
  intro k l ρ h w T fr hs hres hg hcs hb hm ht hk hT
  show Reach P w0 f0 CS0 _ (pq (o7 id k) T (.mk fn ds dfr cs) h)
  unfold pq
  cases he:o7 id k with
  | none=>exact trivial
  | some k'=>
   obtain⟨l',hl',hk'⟩:=Fo hk he
   exact⟨_,.one (HL hm ht hl'),ρ,_,CS,w,[],S,rfl,hs,hres,hg,⟨hb.name,hb.fd,hb.kind,hb.round,hb.defers⟩,hm,.plain hT hk',hcs,hbot⟩
 | scope a iha=>
  intro k l ρ h w T fr hs hres hg hcs hb hm ht hk hT
  exact⟨_,.one (FD hm ht),ρ,_,CS,w,[],S,rfl,hs,hres,hg,⟨hb.name,hb.fd,hb.kind,hb.round,hb.defers⟩,hm,.plain hT (.cons (.code a) (.cons (.inScope a) hk)),hcs,hbot⟩
 | label lb=>
  intro k l ρ h w T fr hs hres hg hcs hb hm ht hk hT
  exact⟨_,.one (Fz hm ht),ρ,_,CS,w,[],S,rfl,hs,hres,hg,⟨hb.name,hb.fd,hb.kind,hb.round,hb.defers⟩,hm,.plain hT hk,hcs,hbot⟩
 | goto lb=>
  intro k l ρ h w T fr hs hres hg hcs hb hm ht hk hT
  show Reach P w0 f0 CS0 _ (pq (dp lb k) T (.mk fn ds dfr cs) h)
  unfold pq
  cases he:dp lb k with
  | none=>exact trivial
  | some k'=>
   obtain⟨l',hl',hk'⟩:=Fp hk he
   exact⟨_,.one (HM hm ht hl'),ρ,_,CS,w,[],S,rfl,hs,hres,hg,⟨hb.name,hb.fd,hb.kind,hb.round,hb.defers⟩,hm,.plain hT hk',hcs,hbot⟩
 | ret=>
  intro k l ρ h w T fr hs hres hg hcs hb hm ht hk hT
  have hrd:=hb.round
  cases dfr with
  | round l=>exact trivial
  | normal=>exact⟨_,.one (Fy hm hrd ht),ρ,_,CS,w,S,rfl,hs,hres,hg,⟨hb.name,hb.fd,hb.kind,hb.round,hb.defers⟩,trivial,.returning,hT,hcs,hbot⟩
  | deferred=>exact⟨_,.one (Fy hm hrd ht),ρ,_,CS,w,S,rfl,hs,hres,hg,⟨hb.name,hb.fd,hb.kind,hb.round,hb.defers⟩,trivial,.returning,hT,hcs,hbot⟩
 | refuse why=>
  intro k l ρ h w T fr hs hres hg hcs hb hm ht hk hT
  exact trivial
end
end Go.VM
