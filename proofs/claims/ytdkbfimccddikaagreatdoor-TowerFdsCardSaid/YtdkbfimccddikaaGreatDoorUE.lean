/- An evaluator of the model's code (a machine on abstract values), and that it follows the model's, first part. No conditions: a library text of the proof. -/
import Derived.Test.YtdkbfimccddikaaGreatDoorUC
import Derived.Orders
noncomputable section
namespace Go.VM
inductive PStep where
 | op (i:Nat) | chk (i:Nat)
inductive AItem where
 | code (c:Code) | inBlock (id:Nat) | inLoop (c:Code) | inScope (c:Code)
 | ops (all:List Oper) (rest:List Oper)
 | dops (all:List Oper) (plan:List PStep)
 | inRange (l:Key) | endRange (l:Key) | beginRound
inductive FK where
 | normal | deferred | round (l:Key)
inductive AMode where
 | run | returning | panicking (chain:List (AV × Bool))
inductive AFrame where
 | mk (fn:Nat) (T:Slots) (k:List AItem) (ds:List ADef) (m:AMode) (fk:FK)
inductive Ctx where
 | mk (fn:Nat) (ds:List ADef) (fk:FK) (cs:List AFrame)
inductive St where
 | go (T:Slots) (k:List AItem) (c:Ctx) (h:Heap)
 | un (m:AMode) (T:Slots) (c:Ctx) (h:Heap)
 | done (v:AV) (h:Heap)
 | alt (l:List (AV × Heap)) (T:Slots) (k:List AItem) (c:Ctx)
 | bad (why:String)
structure Row where
 args:List AV
 val:AV
 objs:List (Key × AObj)
class Hook where
 sums:Nat→Nat
 exts:Nat→Nat
 tab:Nat→List AV→List Row
 prim:Nat→List AV→Heap→Option (AV × Heap)
def noPrim(_:Nat)(_:List AV)(_:Heap):Option (AV × Heap):=none
def sumKind[H:Hook](f:Nat):Nat:=H.sums f
def dQ[H:Hook](f:Nat):Nat:=H.exts f
section
variable (P:Program)
def setSlots(args:List AV):ST→Nat→ST:=List.rec (motive:=fun _=>ST→Nat→ST) (fun T _=>T) (fun v _ ih T i=>ih (T.set v (keyOf i)) (Nat.succ i)) args
def jl(f:Nat):Option Func:=match P.funcs[f]? with
 | some fn=>if fn.name == "runtime.NumGoroutine" then none else some fn
 | none=>none
def bodyOf(f:Nat):Option Code:=(jl P f).bind (·.body)
def ntmpsOf(f:Nat):Nat:=((jl P f).map (·.ntmps)).getD 0
def resultsOf(f:Nat):List ResultVar:=((jl P f).map (·.results.toList)).getD []
def enter(f:Nat)(args:List AV)(dfr:FK)(cs:List AFrame)(h:Heap)(c:Code):St:=
 cond (Nat.ble (len args) (ntmpsOf P f)) (.go (.mk (ntmpsOf P f) (setSlots args .nil 0)) [.code c] (.mk f [] dfr cs) h) (.bad "enter")
def nz(id:Nat)(k:List AItem):Option (List AItem):=List.rec (motive:=fun _=>Option (List AItem)) none
 (fun it r ih=>AItem.casesOn (motive:=fun _=>Option (List AItem)) it (fun _=>ih) (fun i=>cond (Nat.beq i id) (some r) ih) (fun _=>ih) (fun _=>ih) (fun _ _=>ih) (fun _ _=>ih) (fun _=>ih) (fun _=>ih) ih) k
def cN(l:Nat):List AItem→Option (List AItem)
 | .inScope body::k=>match findLabel body l with
  | some r=>some (.code r::.inScope body::k)
  | none=>cN l k
 | _::k=>cN l k
 | []=>none
def putIn(n:Nat)(t:ST)(d:Nat)(v:AV)(k:Slots→St):St:=cond (Nat.blt d n) (k (.mk n (t.set v (keyOf d)))) (.bad "slot")
def putK(T:Slots)(d:Option Nat)(v:AV)(k:Slots→St):St:=Option.rec (motive:=fun _=>St) (k T) (fun d=>Slots.rec (motive:=fun _=>St) (fun n t=>putIn n t d v k) T) d
def operAt(all:List Oper)(i:Nat):Option Oper:=hd (drop i all)
def gp(all:List Oper)(i:Nat):Option Nat:=(operAt all i).bind (·.dst)
def finish(c:AFrame)(v:AV)(cs:List AFrame)(h:Heap):St:=match c with
 | .mk fn T k ds _ dfr=>(match k with
  | .ops all (o::rest)::k=>putK T o.dst v (fun T=>.go T (.ops all rest::k) (.mk fn ds dfr cs) h)
  | .dops all (.op i::plan)::k=>putK T (gp all i) v (fun T=>.go T (.dops all plan::k) (.mk fn ds dfr cs) h)
  | .inRange l::k=>.go T (.endRange l::k) (.mk fn ds dfr cs) h
  | _=>.bad "finish")
def bz(h:Heap)(T:Slots):List ResultVar→Option (List AV)
 | []=>some []
 | .tmp t::rs=>(match bz h T rs with
  | some vs=>some (T.get t::vs)
  | _=>none)
 | .cell a t::rs=>(match T.get a with
  | .ptr b off=>(match (cond (isAggT P t) ((aM h b off (szOf P t)).map .agg) (cond (known P t) (cellAt h b off) none)),bz h T rs with
   | some v,some vs=>some (v::vs)
   | _,_=>none)
  | _=>none)
def lF(v:AV)(b:Bool):Option Bool:=match v with
 | .bool x=>some (x == b)
 | .undef=>some false
 | _=>none
def guardA(g:Option (Nat × Bool))(all:List Oper)(T:Slots):Option Bool:=Option.rec (motive:=fun _=>Option Bool) (some true)
 (fun g=>Option.rec (motive:=fun _=>Option Bool) none (fun d=>lF (T.get d) g.2) (gp all g.1)) g
def lG:Nat→Nat→Nat→Nat→Nat
 | 0,_,_,_=>0
 | n+1,c,k,i=>cond (Nat.beq (Nat.mod k 256) c) (i+1) (lG n c (k / 256) (i+1))
def nA:Nat→Nat→Nat→Nat→Nat
 | 0,_,_,a=>a
 | n+1,c,k,a=>nA n c (k / 256) (cond (Nat.beq (Nat.mod k 256) c) (a+1) a)
def Cl(n:Nat):AV:=match n with
 | 0=>.int .i64 (-1)
 | n+1=>.int .i64 (Int.ofNat n)
def Fw(n:Nat):AV:=match n with
 | 0=>.bool false
 | _+1=>.bool true
def Fx(e:Option TypeDesc)(n:Nat)(h:Heap):Res:=match e with
 | some (.slice e)=>cond (Nat.ble n 1000000) (h.alloc (.cells e (rep n [.junk]) true 0) (fun b h=>.val (.slice b 0 n (.more 1)) h)) (.bad "MakeNoZero")
 | _=>.bad "MakeNoZero"
def Cm(ts:List Nat)(n:Nat)(h:Heap):Res:=match ts with
 | [t]=>Fx (P.underlying t) n h
 | _=>.bad "MakeNoZero"
def ze(t:Nat)(m:Key)(h:Heap):Res:=match h.get m with
 | some (.map es clock)=>h.alloc (.map es clock) (fun b h=>.val (.iface t (.map b)) h)
 | _=>.bad "maps.clone"
def dr(k:Nat)(fd:Func)(args:List AV)(h:Heap):Res:=match k with
 | 1=>(match args with
  | [.float .f64 b]=>.val (.int .u64 (Int.ofNat b)) h
  | _=>.bad "Float64bits")
 | 2=>(match args with
  | [.int .u64 (.ofNat b)]=>.val (.float .f64 b) h
  | _=>.bad "Float64frombits")
 | 3=>(match args with | [x]=>.val x h | _=>.bad "NoEscape")
 | 4=>(match args with
  | [.str l c,.int .u8 (.ofNat b)]=>cond (Nat.blt b 256) (forceN (lG l b c 0) (fun n=>.val (Cl n) h)) (.bad "IndexByteString")
  | _=>.bad "IndexByteString")
 | 5=>(match args with
  | [.int .i64 (.ofNat n)]=>Cm P fd.resultTypes.toList n h
  | _=>.bad "MakeNoZero")
 | 6=>(match args with
  | [.float .f64 b]=>scalV (aJ P (Extern.MathFloor.toIntegral "math.archTrunc" .zero #[.float .f64 b])) h "archTrunc"
  | _=>.bad "archTrunc")
 | 7=>(match args with
  | [.iface t (.map m)]=>ze t m h
  | _=>.bad "maps.clone")
 | 8=>(match args with
  | [.str l c,.int .u8 (.ofNat b)]=>cond (Nat.blt b 256) (forceN (nA l b c 0) (fun n=>.val (.int .i64 (Int.ofNat n)) h)) (.bad "CountString")
  | _=>.bad "CountString")
 | _=>.bad "entry"
def extL(k:Nat)(fd:Func)(args:List AV)(h:Heap)(r:Res):Res:=match r with
 | .bad w=>cond (Nat.beq k 4) (jk (fun vs h=>dr P 4 fd vs h) args h w) (.bad w)
 | r=>r
def H4[Hook](f:Nat)(fd:Func)(args:List AV)(h:Heap):Res:=extL P (dQ f) fd args h (dr P (dQ f) fd args h)
def lH(fr:AFrame)(cs:List AFrame)(h:Heap):St:=match cs with
  | .mk fn T k ds m fk'::cs=>(match m with
   | .panicking ((v,false)::older)=>finish fr v (.mk fn T k ds (.panicking ((v,true)::older)) fk'::cs) h
   | m=>finish fr .nilIface (.mk fn T k ds m fk'::cs) h)
  | []=>.bad "recover"
def DN(fr:AFrame)(fk:FK)(cs:List AFrame)(h:Heap):St:=match fk with
 | .normal=>finish fr .nilIface cs h
 | .deferred=>lH fr cs h
 | .round _=>.bad "recover in a round"
def nB[Hook](f:Nat)(args:List AV)(fr:AFrame)(cs:List AFrame)(h:Heap):St:=match jl P f with
 | some fd=>(match H4 P f fd args h with
  | .val v h=>finish fr v cs h
  | .bad w=>.bad w
  | _=>.bad "entry")
 | none=>.bad "entry"
def kT:Nat→Nat→Nat→Nat→Nat→Nat
 | 0,sl,_,_,i=>cond (Nat.beq sl 0) (i+1) 0
 | n+1,sl,sc,k,i=>cond (Nat.blt (n+1) sl) 0 (cond (Nat.beq (Nat.mod k (2 ^ (8 * sl))) sc) (i+1) (kT n sl sc (k / 256) (i+1)))
def zf(v:Nat→AV)(args:List AV)(h:Heap):Option (AV × Heap):=match args with
 | [.str l c,.str sl sc]=>cond (Nat.ble l 1000000) (forceN (kT l sl sc c 0) (fun n=>some (v n,h))) none
 | _=>none
def fT(x y:AV):Bool:=match x,y with
 | .str l a,.str m b=>and (Nat.beq l m) (Nat.beq a b)
 | .int k a,.int k' b=>and (Nat.beq (kindNo k) (kindNo k')) (intEq a b)
 | .bool true,.bool true=>true
 | .bool false,.bool false=>true
 | _,_=>false
def ii:List AV→List AV→Bool
 | [],[]=>true
 | a::x,b::y=>cond (fT a b) (ii x y) false
 | _,_=>false
def bF(args:List AV):List Row→Option Row
 | []=>none
 | p::r=>cond (ii p.args args) (some p) (bF args r)
def eg(h:Heap):List (Key × AObj)→Bool
 | []=>true
 | p::r=>match h.get p.1 with
  | some _=>false
  | none=>eg h r
def putObjs:List (Key × AObj)→Heap→Heap
 | [],h=>h
 | p::r,h=>putObjs r (h.put p.1 p.2)
def vO(t:List Row)(args:List AV)(h:Heap):Option (AV × Heap):=match bF args t with
 | some r=>cond (eg h r.objs) (some (r.val,putObjs r.objs h)) none
 | none=>none
def wU(x y:Option (AV × Heap)):Option (AV × Heap):=match x with
 | some p=>some p
 | none=>y
def sumA[H:Hook](k:Nat)(args:List AV)(h:Heap):Option (AV × Heap):=match k with
 | 1=>zf Cl args h
 | 2=>zf Fw args h
 | 3=>(match args with | []=>some (.bool true,h) | _=>none)
 | 0=>none
 | k+4=>wU (vO (H.tab k args) args h) (H.prim k args h)
def enterOr0[Hook](f:Nat)(args:List AV)(fr:AFrame)(cs:List AFrame)(h:Heap):St:=Option.rec (motive:=fun _=>St)
 (nB P f args fr cs h) (enter P f args .normal (fr::cs) h) (bodyOf P f)
def jm[Hook](f:Nat)(args:List AV)(fr:AFrame)(cs:List AFrame)(h:Heap)(x:Option (AV × Heap)):St:=match x with
 | some (v,h')=>finish fr v cs h'
 | none=>enterOr0 P f args fr cs h
def enterK[Hook](k f:Nat)(args:List AV)(fr:AFrame)(cs:List AFrame)(h:Heap):St:=match k with
 | 0=>enterOr0 P f args fr cs h
 | k+1=>jm P f args fr cs h (sumA (k+1) args h)
def du[Hook](f:Nat)(args:List AV)(fr:AFrame)(cs:List AFrame)(h:Heap):St:=enterK P (sumKind f) f args fr cs h
def Fy(T:Slots)(k:List AItem)(c:Ctx)(j:AFrame→List AFrame→FK→St):St:=Ctx.rec (motive:=fun _=>St) (fun fn ds dfr cs=>j (.mk fn T k ds .run dfr) cs dfr) c
def Fz[Hook](f:Nat)(args:List AV)(h:Heap)(T:Slots)(k:List AItem)(c:Ctx):St:=Fy T k c (fun fr cs _=>du P f args fr cs h)
def zg(h:Heap)(T:Slots)(k:List AItem)(c:Ctx):St:=Fy T k c (fun fr cs dfr=>DN fr dfr cs h)
def oR:List Oper→ST→ST
 | [],t=>t
 | o::r,t=>oR r (match o.dst with | some d=>t.set .junk (keyOf d) | none=>t)
def scrub(k:List AItem)(T:Slots):Slots:=match k,T with
 | .dops all _::_,.mk n t=>.mk n (oR all t)
 | _,T=>T
def nC(c:Ctx)(s:St):St:=match c with
 | .mk _ _ fk _=>(match fk with | .round _=>.bad "in a round" | _=>s)
def Ji(v:AV)(h:Heap)(T:Slots)(k:List AItem)(c:Ctx):St:=nC c (.un (.panicking [(v,false)]) (scrub k T) c h)
def Ka(w:String)(_:Slots)(_:List AItem)(_:Ctx):St:=.bad w
def FA(d:ADef)(h:Heap)(T:Slots)(k:List AItem)(c:Ctx):St:=nC c (Fy T k c (fun fr cs _=>match fr with
 | .mk fn T k ds m dfr=>finish (.mk fn T k (d::ds) m dfr) .undef cs h))
def jn:List Nat→List AV→Slots→Option Slots
 | [],[],T=>some T
 | t::ts,v::vs,.mk n r=>cond (Nat.blt t n) (jn ts vs (.mk n (r.set v (keyOf t)))) none
 | _,_,_=>none
def lI(l:Key)(args:List AV)(fr:AFrame)(cs:List AFrame)(h:Heap):St:=match h.get l with
 | some (.loop _ _ fn tm ps a b _)=>(match jn ps args tm,jl P fn with
  | some T,some _=>.go T [.code a,.beginRound,.code b] (.mk fn [] (.round l) (fr::cs)) h
  | _,_=>.bad "yield")
 | _=>.bad "yield"
def FD(l:Key)(args:List AV)(h:Heap)(T:Slots)(k:List AItem)(c:Ctx):St:=Fy T k c (fun fr cs _=>lI P l args fr cs h)
def upon[Hook](r:Res)(T:Slots)(k:List AItem)(c:Ctx)(next:AV→Heap→St):St:=
 Res.casesOn (motive:=fun _=>St) r next
  (fun f args h=>Fz P f args h T k c) (fun l args h=>FD P l args h T k c) (fun d h=>FA d h T k c) (fun h=>zg h T k c) (fun v h=>Ji v h T k c) (fun l=>.alt l T k c) (fun w=>Ka w T k c)
def oneOp[Hook](o:Oper)(it:AItem)(k:List AItem)(c:Ctx)(Tm T:Slots)(h:Heap)(ih:Slots→Heap→St)(g:Option Bool):St:=
 Option.rec (motive:=fun _=>St) (.bad "guard") (fun g=>Bool.rec (motive:=fun _=>St) (putK T o.dst .undef (fun T=>ih T h)) (upon P (execA P o.op Tm h) T (it::k) c (fun v h=>putK T o.dst v (fun T=>ih T h))) g) g
def stepOps[Hook](all:List Oper)(k:List AItem)(c:Ctx)(rest:List Oper):Slots→Heap→St:=
 List.rec (motive:=fun _=>Slots→Heap→St) (fun T h=>.go T k c h) (fun o rest ih T h=>oneOp P o (.ops all (o::rest)) k c T T h ih (guardA o.guard all T)) rest
def beqL(rc:AV→AV→Bool):List AV→List AV→Bool
  | [],[]=>true
  | a::x,b::y=>and (rc a b) (beqL rc x y)
  | _,_=>false
def tL:ACap→ACap→Bool
 | .is x,.is y=>Nat.beq x y
 | .more x,.more y=>Nat.beq x y
 | _,_=>false
def beqA:Nat→AV→AV→Bool
 | 0,_,_=>false
 | d+1,x,y=>match x with
  | .bool a=>(match y with | .bool b=>a == b | _=>false)
  | .int k a=>(match y with | .int k' b=>and (Nat.beq (kindNo k) (kindNo k')) (intEq a b) | _=>false)
  | .float .f64 a=>(match y with | .float .f64 b=>Nat.beq a b | _=>false)
  | .str l a=>(match y with | .str m b=>and (Nat.beq l m) (Nat.beq a b) | _=>false)
  | .nilPtr=>(match y with | .nilPtr=>true | _=>false)
  | .ptr a o=>(match y with | .ptr b q=>and (Key.same a b) (Nat.beq o q) | _=>false)
  | .nilSlice=>(match y with | .nilSlice=>true | _=>false)
  | .slice a o l c=>(match y with | .slice b q m e=>and (and (Key.same a b) (Nat.beq o q)) (and (Nat.beq l m) (tL c e)) | _=>false)
  | .nilMap=>(match y with | .nilMap=>true | _=>false)
  | .map a=>(match y with | .map b=>Key.same a b | _=>false)
  | .nilFunc=>(match y with | .nilFunc=>true | _=>false)
  | .nilIface=>(match y with | .nilIface=>true | _=>false)
  | .iface t a=>(match y with | .iface u b=>and (Nat.beq t u) (beqA d a b) | _=>false)
  | .func (.func f) a b=>(match y with | .func (.func g) x y=>and (Nat.beq f g) (and (beqL (beqA d) a x) (beqL (beqA d) b y)) | _=>false)
  | .agg a=>(match y with | .agg b=>beqL (beqA d) a b | _=>false)
  | .tup a=>(match y with | .tup b=>beqL (beqA d) a b | _=>false)
  | .undef=>(match y with | .undef=>true | _=>false)
  | .junk=>(match y with | .junk=>true | _=>false)
  | .tab a ds xs=>(match y with | .tab b es ys=>and (Key.same a b) (and (ds == es) (beqL (beqA d) xs ys)) | _=>false)
  | .ustr l=>(match y with | .ustr m=>Nat.beq l m | _=>false)
  | .nan=>(match y with | .nan=>true | _=>false)
  | .rng a b=>(match y with | .rng c d=>and (Nat.beq a c) (Nat.beq b d) | _=>false)
  | _=>false
def bj(o:Op):Bool:=match o with
 | .alloc _ | .box .. | .makeMap .. | .buildSlice .. | .makeSlice ..=>true
 | _=>false
def lJ(o:Op):Bool:=match o with   -- neither only reckons nor only reads nor only makes
 | .alloc _ | .box .. | .makeMap .. | .buildSlice .. | .makeSlice ..=>false
 | .move _ | .pick .. | .build .. | .fieldAddr .. | .field .. | .unOp .. | .makeInterface .. | .makeFunc .. | .extract .. | .nilCheck _ | .index .. | .indexAddr .. | .slice .. | .typeAssert ..=>false
 | .binOp op t ..=>mQ P op t
 | .convert src dst _=>(match P.underlying src,P.underlying dst with | _,some (.slice _)=>true | _,_=>false)
 | .load .. | .lookup ..=>false
 | .call { callee:=.builtin .len,.. }=>false
 | .call { callee:=.builtin .min,.. } | .call { callee:=.builtin .max,.. } | .call { callee:=.builtin .cap,.. }=>false
 | _=>true
def tM(e:Edge):Bool:=match e.ground with | .textOnly _ | .gcOnly _=>false | _=>true
def oS:List Edge→List Nat
 | []=>[]
 | e::r=>cond (tM e) (e.on::oS r) (oS r)
def edgesOf(o:Oper):List Nat:=oS o.after.toList
def elemN(i:Nat):List Nat→Bool
 | []=>false
 | j::r=>cond (Nat.beq i j) true (elemN i r)
def H5(i:Nat)(l:List Nat):List Nat:=cond (elemN i l) l (i::l)
def wW:List Nat→List Nat→List Nat
 | [],l=>l
 | i::r,l=>H5 i (wW r l)
def pR(acc:List (List Nat)):List Nat→List Nat
 | []=>[]
 | j::r=>H5 j (wW (acc.getD j []) (pR acc r))
def dL:List Oper→List (List Nat)→List (List Nat)   -- the ancestors,op by op
 | [],acc=>acc
 | o::r,acc=>dL r (cat acc [pR acc (edgesOf o)])
def jo(l A:List Nat):Bool:=match l with
 | []=>true
 | i::r=>cond (elemN i A) (jo r A) false
def lL:Nat→List Nat
 | 0=>[]
 | n+1=>n::lL n
def dv(l A:List Nat):List Nat:=match l with
 | []=>[]
 | i::r=>cond (elemN i A) (dv r A) (i::dv r A)
def tN(all:List Oper)(i:Nat):Bool:=cond (Nat.beq (i+1) all.length) (match all[i]? with | some o=>cond (bj o.op) false (jo (lL i) (edgesOf o)) | none=>false) false
def closers(all:List Oper):List Nat:=match all.length with
 | 0=>[]
 | n+1=>cond (tN all n) [n] []
def cg(all:List Oper)(i:Nat):Bool:=match all[i]? with | some o=>or (lJ P o.op) (tN all i) | none=>true
def eS(all:List Oper)(i:Nat):Bool:=match all[i]? with | some o=>bj o.op | none=>false
def eU(an:List (List Nat))(i:Nat):List Nat:=an.getD i []
def cu(an:List (List Nat))(i:Nat):List Nat→Bool
 | []=>true
 | x::r=>cond (cond (Nat.beq x i) true (elemN i (eU an x))) (cu an i r) false
def cy:List PStep→List Nat
 | .chk j::r=>j::cy r
 | _=>[]
def asked(all:List Oper)(an:List Nat)(ch:List Nat):List Nat→Bool
 | []=>true
 | j::r=>cond (cond (or (cg P all j) (eS all j)) true (cond (elemN j an) true (elemN j ch))) (asked all an ch r) false
def cz(all:List Oper)(an:List (List Nat)):List Nat→List PStep→Bool
 | A,[]=>jo (lL all.length) A
 | A,.chk j::r=>cond (eS all j) false (cz all an A r)
 | A,.op i::r=>match all[i]? with
  | none=>false
  | some o=>cond (and (not (elemN i A)) (jo (edgesOf o) A)) (cond (cond (cg P all i) (and (cu an i (dv (lL all.length) A)) (asked P all (eU an i) (cy r) A)) (cond (bj o.op) (asked P all [] (cy r) A) true)) (cz all an (i::A) r) false) false
def bQ(i:Nat):List Oper→Bool
 | []=>true
 | o::r=>cond ((edgesOf o).all fun j=>Nat.blt j i) (bQ (i+1) r) false
def dZ:List Oper→List Nat
 | []=>[]
 | o::r=>match o.dst with | some d=>d::dZ r | none=>dZ r
def fU:List Nat→Bool
 | []=>true
 | i::r=>cond (elemN i r) false (fU r)
def Ii(all:List Oper)(i:Nat)(o:Op):Nat:=cond (bj o) 0 (cond (cg P all i) 2 1)
def jW(act:Nat)(A:List Nat)(all:List Oper):List Nat→Option Nat
 | []=>none
 | i::r=>match all[i]? with
  | none=>none
  | some o=>cond (and (Nat.beq act (Ii P all i o.op)) (jo (edgesOf o) A)) (some i) (jW act A all r)
def wX(all:List Oper)(an:List Nat):List Nat→List PStep→List PStep
 | [],t=>t
 | j::r,t=>wX all an r (cond (or (or (cg P all j) (eS all j)) (elemN j an)) t (.chk j::t))
def tO(all:List Oper)(an:List (List Nat)):Nat→List Nat→List Nat→Option (List PStep)
 | 0,_,_=>none
 | fuel+1,A,rem=>match rem with
  | []=>some []
  | _::_=>match jW P 0 A all rem with
   | some i=>(tO all an fuel (i::A) (dv rem [i])).map fun t=>.op i::wX P all [] A t
   | none=>match jW P 1 A all rem with
    | some i=>(tO all an fuel (i::A) (dv rem [i])).map (.op i::·)
    | none=>match jW P 2 A all rem with
     | some i=>(tO all an fuel (i::A) (dv rem [i])).map fun t=>.op i::wX P all (eU an i) A t
     | none=>none
def planOf(all:List Oper):Option (List PStep):=
 match tO P all (dL all []) (all.length+1) [] (lL all.length).reverse with
 | some p=>cond (and (and (cz P all (dL all []) [] p) (bQ 0 all)) (fU (dZ all))) (some p) none
 | none=>none
def maskGo(es:List Nat):Nat→List Oper→ST→ST
 | _,[],t=>t
 | i,o::r,t=>maskGo es (i+1) r (cond (elemN i es) t (match o.dst with | some d=>t.set .junk (keyOf d) | none=>t))
def maskT(es:List Nat)(all:List Oper)(T:Slots):Slots:=Slots.rec (motive:=fun _=>Slots) (fun n t=>.mk n (maskGo (cat es (closers all)) 0 all t)) T
def b9(a:Bool)(r:Res):Res:=match r with
 | .alts l=>cond a (.alts l) (.bad "drawn apart in a plan")
 | r=>r
def execD(o:Op)(T:Slots)(h:Heap):Res:=b9 (or (lJ P o) (bj o)) (execA P o T h)
def oneOpD[Hook](o:Oper)(it:AItem)(k:List AItem)(c:Ctx)(Tm T:Slots)(h:Heap)(ih:Slots→Heap→St)(g:Option Bool):St:=
 Option.rec (motive:=fun _=>St) (.bad "guard") (fun g=>Bool.rec (motive:=fun _=>St) (putK T o.dst .undef (fun T=>ih T h)) (upon P (execD P o.op Tm h) T (it::k) c (fun v h=>putK T o.dst v (fun T=>ih T h))) g) g
def opM[Hook](o:Oper)(it:AItem)(all:List Oper)(k:List AItem)(c:Ctx)(T:Slots)(h:Heap)(ih:Slots→Heap→St)(Tm:Slots):St:=oneOpD P o it k c Tm T h ih (guardA o.guard all Tm)
def opD[Hook](i:Nat)(rest:List PStep)(all:List Oper)(k:List AItem)(c:Ctx)(T:Slots)(h:Heap)(ih:Slots→Heap→St):St:=
 Option.rec (motive:=fun _=>St) (.bad "plan") (fun o=>opM P o (.dops all (.op i::rest)) all k c T h ih (maskT (edgesOf o) all T)) (operAt all i)
def same(r:Res)(v:AV):Bool:=match r with | .val x _=>beqA 60 x v | _=>false
def Jj(o:Oper)(T:Slots)(h:Heap)(Tm:Slots)(d:Nat)(g:Option Bool):Bool:=match g with
 | some true=>same (execD P o.op Tm h) (T.get d)
 | some false=>(match T.get d with | .undef=>true | _=>false)
 | none=>false
def chkO(o:Oper)(all:List Oper)(T:Slots)(h:Heap):Bool:=match o.dst with
 | some d=>Jj P o T h (maskT (edgesOf o) all T) d (guardA o.guard all (maskT (edgesOf o) all T))
 | none=>false
def chkD(i:Nat)(all:List Oper)(T:Slots)(h:Heap)(ih:Slots→Heap→St):St:=
 Option.rec (motive:=fun _=>St) (.bad "plan") (fun o=>cond (chkO P o all T h) (ih T h) (.bad "an order that matters")) (operAt all i)
def stepPlan[Hook](all:List Oper)(k:List AItem)(c:Ctx)(plan:List PStep):Slots→Heap→St:=
 List.rec (motive:=fun _=>Slots→Heap→St) (fun T h=>.go T k c h) (fun s rest ih T h=>PStep.casesOn (motive:=fun _=>St) s (fun i=>opD P i rest all k c T h ih) (fun i=>chkD P i all T h ih)) plan
abbrev SF:=Slots→List AItem→Ctx→Heap→St
def oT(k':Option (List AItem))(T:Slots)(c:Ctx)(h:Heap):St:=
 Option.rec (motive:=fun _=>St) (.bad "exit: no such block") (fun k=>.go T k c h) k'
def kV:SF:=fun T k c h=>.go T k c h
def goPlan[Hook](p:Option (List PStep))(all:List Oper):SF:=fun T k c h=>Option.rec (motive:=fun _=>St) (.bad "no plan") (fun p=>stepPlan P all k c p T h) p
def wY[Hook](_:Nat)(ops:Array Oper)(draw:Bool):SF:=fun T k c h=>Bool.rec (motive:=fun _=>St) (stepOps P ops.toList k c ops.toList T h) (goPlan P (planOf P ops.toList) ops.toList T k c h) draw
def HJ(id:Nat):SF:=fun T k c h=>oT (nz id k) T c h
def HL(l:Nat):SF:=fun T k c h=>oT (cN l k) T c h
def Jk:SF:=fun T _ c h=>nC c (.un .returning T c h)
def Cn(w:String):SF:=fun _ _ _ _=>.bad w
def Ij(_:Nat):SF:=kV
def Kb(_ b:Code)(a:SF)(_:SF):SF:=fun T k c h=>a T (.code b::k) c h
def Bc(x:Operand)(_ _:Code)(a b:SF):SF:=fun T k c h=>match ev P T x with
 | .bool t=>Bool.rec (motive:=fun _=>St) (b T k c h) (a T k c h) t
 | _=>.bad "cond"
def Ik(id:Nat)(_:Code)(b:SF):SF:=fun T k c h=>b T (.inBlock id::k) c h
def HM(b:Code)(_:SF):SF:=fun T k c h=>.go T (.code b::.inLoop b::k) c h
def FE(b:Code)(_:SF):SF:=fun T k c h=>.go T (.code b::.inScope b::k) c h
def vP(f:AV)(lk:Key)(fr:AFrame)(cs:List AFrame)(h:Heap):St:=match f with
 | .func (.func g) first cap=>(match bodyOf P g with
  | some c=>enter P g (cat first (cat [.func (.yield lk) [] []] cap)) .normal (fr::cs) h c
  | none=>.bad "rangeFunc entry")
 | _=>.bad "rangeFunc"
def wZ(f:Operand)(ps:List Nat)(a b:Code)(T:Slots)(k:List AItem)(fn:Nat)(ds:List ADef)(fk:FK)(cs:List AFrame)(h:Heap):St:=match h with
 | .mk t nx=>(match t.get nx,(t.set (.deferred []) nx).get (incr nx) with
  | none,none=>vP P (ev P T f) (incr nx) (.mk fn T (.inRange (incr nx)::k) (⟨.yield nx,[],[]⟩::ds) .run fk) cs (.mk ((t.set (.deferred []) nx).set (.loop .ready none fn T ps a b nx) (incr nx)) (incr (incr nx)))
  | _,_=>.bad "key")
def FG(f:Operand)(ps:Array Nat)(a b:Code)(_ _:SF):SF:=fun T k c h=>match c with
 | .mk fn ds fk cs=>nC c (wZ P f ps.toList a b T k fn ds fk cs h)
def eV[Hook](c:Code):SF:=Code.rec (motive:=fun _=>SF) kV (wY P) Kb (Bc P) Ik HM (FG P) HJ FE Ij HL Jk Cn c
def FH(_:Nat):SF:=kV
def HN(b:Code):SF:=fun T k c h=>.go T (.code b::.inLoop b::k) c h
def FI(_:Code):SF:=kV
def Kc[Hook](all rest:List Oper):SF:=fun T k c h=>stepOps P all k c rest T h
def Jl[Hook](all:List Oper)(plan:List PStep):SF:=fun T k c h=>stepPlan P all k c plan T h
def x8:SF:=fun T k c h=>match c with
 | .mk _ _ fk _=>(match fk with
  | .round l=>(match h.get l with
   | some (.loop .ready p f tm ps a b d)=>.go T k c (h.put l (.loop .busy p f tm ps a b d))
   | _=>.bad "beginRound")
  | _=>.bad "beginRound")
def H6(l:Key):SF:=fun T k c h=>match h.get l with
 | some (.loop .ready none f tm ps a b d)=>.go T k c (h.put l (.loop .exhausted none f tm ps a b d))
 | _=>.bad "endLoop"
def FJ(_:Key):SF:=fun _ _ _ _=>.bad "inRange"
def zh[Hook](it:AItem):SF:=
 AItem.casesOn (motive:=fun _=>SF) it (eV P) FH HN FI (Kc P) (Jl P) FJ H6 x8
def leave(T:Slots)(c:Ctx)(h:Heap):St:=match c with
 | .mk fn ds fk cs=>(match fk with
  | .round l=>(match h.get l,cs with
   | some (.loop _ _ f tm ps a b d),c::cs=>finish c (.bool true) cs (h.put l (.loop .ready none f tm ps a b d))
   | _,_=>.bad "endRound")
  | fk=>.un .returning T (.mk fn ds fk cs) h)
def stepGo[Hook](T:Slots)(k:List AItem)(c:Ctx)(h:Heap):St:=
 List.rec (motive:=fun _=>St) (leave T c h) (fun it k _=>zh P it T k c h) k
def Il(m:AMode):AMode:=match m with
 | .panicking ((_,true)::_)=>.returning
 | m=>m
def Im(cs:List AFrame)(h:Heap):St:=match cs with
 | []=>.bad "return"
 | .mk fn T _ ds m fk'::cs=>(match Il m with
   | .run=>.bad "deferred into a running frame"
   | m=>.un m T (.mk fn ds fk' cs) h)
def In(v:AV)(cs:List AFrame)(h:Heap):St:=match cs with
 | []=>.done v h
 | fr::cs=>finish fr v cs h
def retTo(v:AV)(fk:FK)(cs:List AFrame)(h:Heap):St:=match fk with
 | .normal=>In v cs h
 | .deferred=>Im cs h
 | .round _=>.bad "return of a round"
def Co(d:ADef)(m:AMode)(T:Slots)(fn:Nat)(ds:List ADef)(dfr:FK)(cs:List AFrame)(h:Heap):St:=match d with
 | ⟨g,cap,args⟩=>(match g with
  | .yield b=>(match h.get b with
   | some (.deferred [])=>.un m T (.mk fn ds dfr cs) (h.put b .dead)
   | _=>.bad "deferred of rounds")
  | .func g=>(match bodyOf P g with
   | some c=>enter P g (cat args cap) .deferred (.mk fn T [] ds m dfr::cs) h c
   | none=>.bad "deferred entry"))
def Cq(chain:List (AV × Bool))(cs:List AFrame)(h:Heap):St:=match cs with
   | .mk fn T k ds m' fk'::cs=>nC (.mk fn ds fk' cs) (.un (match m' with | .panicking o=>.panicking (cat chain o) | _=>.panicking chain) (scrub k T) (.mk fn ds fk' cs) h)
   | []=>.bad "panicked out"
def unRet(T:Slots)(fn:Nat)(dfr:FK)(cs:List AFrame)(h:Heap):St:=match bz P h T (resultsOf P fn) with
   | none=>.bad "results"
   | some [v]=>retTo v dfr cs h
   | some vs=>retTo (.tup vs) dfr cs h
def stepUn(m:AMode)(T:Slots)(c:Ctx)(h:Heap):St:=match c with
 | .mk fn ds dfr cs=>(match ds with
  | d::ds=>Co P d m T fn ds dfr cs h
  | []=>(match m with
   | .run=>.bad "unwind"
   | .panicking chain=>Cq chain cs h
   | .returning=>unRet P T fn dfr cs h))
def altOne(T:Slots)(k:List AItem)(c:Ctx)(v:AV)(h:Heap):St:=Fy T k c (fun fr cs _=>finish fr v cs h)
def oU(ih:St→Bool)(T:Slots)(k:List AItem)(c:Ctx)(l:List (AV × Heap)):Bool:=List.rec (motive:=fun _=>Bool) true (fun p _ r=>cond (ih (altOne T k c p.1 p.2)) r false) l
def jp[Hook](post:AV→Heap→Bool)(n:Nat):St→Bool:=Nat.rec (motive:=fun _=>St→Bool) (fun _=>false)
 (fun _ ih s=>St.casesOn (motive:=fun _=>Bool) s (fun T k c h=>ih (stepGo P T k c h)) (fun m T c h=>ih (stepUn P m T c h)) (fun v h=>post v h) (fun l T k c=>oU ih T k c l) (fun _=>false)) n
end
end Go.VM
end
namespace Go.VM
theorem Slots.get_mk(n:Nat)(r:ST)(i:Nat):(Slots.mk n r).get i=r.get (keyOf i):=rfl
theorem Slots.get_set_same(n:Nat)(r:ST)(d:Nat)(v:AV):(Slots.mk n (r.set v (keyOf d))).get d=v:=by
 rw [Slots.get_mk,ST.get_set_same]
theorem Slots.get_set_other(n:Nat)(r:ST)(d i:Nat)(v:AV)(h:d≠i):(Slots.mk n (r.set v (keyOf d))).get i=(Slots.mk n r).get i:=by
 rw [Slots.get_mk,ST.get_set_other _ _ _ _ (fun e=>h (CN e))];rfl
theorem eE(t:Array Value)(d i:Nat)(V:Value)(hd:d < t.size):(t.setIfInBounds d V).getD i Go.undef=if d=i then V else t.getD i Go.undef:=by
 simp only [Array.getD_eq_getD_getElem?,Array.getElem?_setIfInBounds]
 by_cases h:d=i
 ·subst h;simp [hd]
 ·simp [h]
section
variable {ρ:Rho}
theorem TRel.put{n:Nat}{r:ST}{t:Array Value}(hT:TRel ρ (.mk n r) t){d:Nat}(hd:d < n){v:AV}{V:Value}(hv:Rel ρ v V):TRel ρ (.mk n (r.set v (keyOf d))) (t.setIfInBounds d V):=by
 have hn:t.size=n:=hT.n
 refine⟨by simp [hn],fun i=>?_⟩
 rw [eE t d i V (by omega)]
 by_cases h:d=i
 ·subst h;rw [Slots.get_set_same,if_pos rfl];exact hv
 ·rw [Slots.get_set_other _ _ _ _ _ h,if_neg h];exact hT.at_ i
theorem mn:∀ (args:List AV) (r:ST) (i j n:Nat),(Slots.mk n (setSlots args r i)).get j=if i≤j∧j < i+args.length then args.getD (j - i) .junk else (Slots.mk n r).get j
 | [],r,i,j,n=>by
  show (Slots.mk n r).get j=_
  rw [if_neg (by rintro ⟨h1,h2⟩;simp only [List.length_nil] at h2;omega)]
 | v::args,r,i,j,n=>by
  show (Slots.mk n (setSlots args (r.set v (keyOf i)) (i+1))).get j=_
  rw [mn args _ (i+1) j n]
  by_cases h:i=j
  ·subst h
   rw [if_neg (by omega),if_pos (by simp),Slots.get_set_same]
   simp
  ·rw [Slots.get_set_other _ _ _ _ _ h]
   by_cases h2:i+1≤j∧j < i+1+args.length
   ·rw [if_pos h2,if_pos (by simp;omega)]
    rw [show j - i=(j - (i+1))+1 by omega]
    simp
   ·rw [if_neg h2,if_neg (by simp;omega)]
theorem Ag{args:List AV}{A:List Value}{n:Nat}(hr:RelL ρ args A)(hn:args.length≤n):TRel ρ (.mk n (setSlots args .nil 0)) ((⟨A⟩:Array Value)++Array.replicate (n - A.length) Go.undef):=by
 have hl:=hr.length
 refine⟨by simp;omega,fun i=>?_⟩
 rw [mn]
 by_cases hi:i < args.length
 ·rw [if_pos (by omega)]
  obtain⟨v,hv⟩:∃ v,args[i]?=some v:=⟨_,List.getElem?_eq_getElem hi⟩
  obtain⟨V,hV,hrel⟩:=hr.get? i hv
  have e1:args.getD (i - 0) .junk=v:=by simp [List.getD,hv]
  have e2:((⟨A⟩:Array Value)++Array.replicate (n - A.length) Go.undef).getD i Go.undef=V:=by
   rw [Array.getD_eq_getD_getElem?,Array.getElem?_append_left (by simp;omega)]
   simp [hV]
  rw [e1,e2];exact hrel
 ·rw [if_neg (by omega),Slots.get_mk,ST.get_nil]
  exact .junk _
end
section
variable {P:Program}
theorem En{T T':Slots}(h:∀ i,T.get i=T'.get i):ev P T=ev P T':=by
 funext x
 cases x with
 | tmp i=>exact h i
 | _=>rfl
theorem BH{T T':Slots}(h:ev P T=ev P T'):evs P T=evs P T':=by
 funext xs
 induction xs with
 | nil=>rfl
 | cons x r ih=>show ev P T x::evs P T r=ev P T' x::evs P T' r;rw [h,ih]
theorem Eo{T T':Slots}(h:ev P T=ev P T'):iz P T=iz P T':=by
 funext xs
 induction xs with
 | nil=>rfl
 | cons x r ih=>show (x.1,ev P T x.2)::iz P T r=(x.1,ev P T' x.2)::iz P T' r;rw [h,ih]
theorem Ep{T T':Slots}(h:ev P T=ev P T'):jZ P T=jZ P T':=by
 funext x
 cases x with
 | none=>rfl
 | some x=>show some (ev P T x)=some (ev P T' x);rw [h]
theorem Du{T T':Slots}{h:Heap}(e:∀ i,T.get i=T'.get i)(o:Op):execP P o T h=execP P o T' h:=by
 have h1:=En (P:=P) e
 have h2:=BH h1
 have h3:=Eo h1
 have h4:=Ep h1
 cases o with
 | call c=>
  obtain⟨callee,args,ts⟩:=c
  cases callee with
  | value f=>show jh (ev P T f) (evs P T args.toList) h=jh (ev P T' f) (evs P T' args.toList) h;rw [h1,h2]
  | invoke r n=>rfl
  | builtin b=>show ce P b ts.toList (evs P T args.toList) h=ce P b ts.toList (evs P T' args.toList) h;rw [h2]
 | defer c=>show jf P c T h=jf P c T' h;unfold jf;rw [h1,h2]
 | _=>simp only [execP,Ci,Fk,wO,Fl,AR,ji,eQ,z7,lB,H2,H3,cUn,tE,AS,Fm,tF,lD,AU,eR,AX,dK,tG,wP,AY,Fo,AZ,wQ,np,B0,no1,no2,no3,no4,h1,h2,h3,h4]
theorem Dv{T T':Slots}{h:Heap}(e:∀ i,T.get i=T'.get i)(o:Op):execA P o T h=execA P o T' h:=by
 show fD P (bO P o) T h (execP P o T h)=fD P (bO P o) T' h (execP P o T' h)
 rw [Du e o]
 cases bO P o with
 | none=>rfl
 | some l=>
  show fQ P l T h _=fQ P l T' h _
  unfold fQ
  rw [BH (En (P:=P) e)]
theorem jC{T T':Slots}{h:Heap}(e:∀ i,T.get i=T'.get i)(o:Op):execD P o T h=execD P o T' h:=by
 unfold execD;rw [Dv e o]
end
end Go.VM
namespace Go.VM
section
variable {P:Program} {h:Heap}
theorem yi{T:Slots}(o:Op)(ha:lJ P o=false)(hmk:bj o=false):Keeps h (execP P o T h):=by
 cases o with
 | move x=>exact .val _
 | pick c a b=>exact Ae ..
 | build t ps=>exact ya ..
 | fieldAddr s x f=>
  show Keeps h (xFieldAddr P s f (ev P T x) h)
  unfold xFieldAddr;split
  ·exact .cond (.force fun _=>.val _) (.bad _)
  ·exact .bad _
 | field s x f=>
  show Keeps h (tp P s f (ev P T x) h)
  unfold tp;split
  ·split
   ·exact .okv _ _
   ·exact .bad _
  ·exact .bad _
 | unOp op t x=>exact yb ..
 | makeInterface t x=>exact .cond (.val _) (.bad _)
 | makeFunc f a b=>
  show Keeps h (z6 f _ _ h)
  unfold z6;split
  ·exact .val _
  ·exact .bad _
 | extract x i=>
  show Keeps h (xExtract _ i h)
  unfold xExtract;split
  ·exact .okv _ _
  ·exact .bad _
 | nilCheck x=>exact Dr ..
 | index t x i=>exact pi ..
 | indexAddr t x i=>exact im ..
 | slice t x lo hi mx=>exact ph ..
 | typeAssert x t u ok=>exact wh ..
 | binOp op t x y z=>exact uW _ _ _ _ _ (.inl ha)
 | convert s d x=>
  refine rl s d _ (fun e hu=>?_)
  unfold lJ at ha
  cases hs:P.underlying s<;>simp [hu] at ha
 | load t a=>exact rk ..
 | lookup t x i ok=>exact mj ..
 | call c=>
  obtain⟨callee,args,ts⟩:=c
  cases callee with
  | value f=>simp [lJ] at ha
  | invoke r n=>simp [lJ] at ha
  | builtin b=>
   show Keeps h (ce P b ts.toList (evs P T args.toList) h)
   have one:∀ {k:AV→Res},(∀ x,Keeps h (k x))→Keeps h (uu (evs P T args.toList) k):=fun hk=>by
    unfold uu;split;exact hk _;exact .bad _
   have two:∀ {k:AV→AV→Res},(∀ x y,Keeps h (k x y))→Keeps h (yY (evs P T args.toList) k):=fun hk=>by
    unfold yY;split;exact hk _ _;exact .bad _
   have wT:∀ {k:Nat→Res},(∀ t,Keeps h (k t))→Keeps h (iu ts.toList k):=fun hk=>by
    unfold iu;split;exact hk _;exact .bad _
   cases b with
   | len=>exact one fun x=>wT fun t=>uX ..
   | min=>exact rm _
   | max=>exact ro _
   | cap=>exact one fun x=>wT fun t=>Ds t x
   | _=>simp [lJ] at ha
 | _=>first | (simp [lJ] at ha;done) | (simp [bj] at hmk;done)
theorem uj(b:Key)(ds:List Nat)(rs:List AV):Keeps h (b9 false (jU b ds rs h)):=by
 unfold jU
 split
 ·exact .bad _
 ·rename_i v r
  cases isB v with
  | false=>exact .val _
  | true=>
   show Keeps h (b9 false (fC b h (dq ds (v::r))))
   unfold fC
   split
   ·exact .val _
   ·exact .val _
   ·exact .bad _
   ·exact .bad _
theorem yj(f:List AV→Heap→Res)(vs:List AV)(m:String):Keeps h (b9 false (jk f vs h m)):=by
 unfold jk
 split
 ·unfold jV
  split
  ·exact uj _ _ _
  ·exact .bad _
 ·exact .bad _
theorem lg(k:IntKind)(b:Key)(off:Int)(lo hi:Nat):Keeps h (b9 false (wR k b off lo hi h)):=by
 unfold wR
 cases and (tH (Int.ofNat lo+off)) (tH (Int.ofNat hi+off)) with
 | true=>rw [jx];exact .val _
 | false=>exact .bad _
theorem pu(y n:Bool)(b:Key)(m lo hi:Nat):Keeps h (b9 false (nq y n b m lo hi h)):=by
 unfold nq
 cases Nat.ble m lo with
 | true=>exact .val _
 | false=>
  cases Nat.ble hi m with
  | true=>exact .val _
  | false=>rw [forceN_eq];exact .bad _
theorem yk(y n:Bool)(b:Key)(d:Int)(lo hi:Nat):Keeps h (b9 false (tJ y n b d lo hi h)):=by
 unfold tJ
 split
 ·rename_i m
  cases or (Nat.blt m lo) (Nat.ble hi m) with
  | true=>exact .val _
  | false=>
   cases Nat.ble hi (lo+1) with
   | true=>exact .val _
   | false=>rw [forceN_eq,forceN_eq];exact .bad _
 ·exact .val _
theorem dD{b:Bool}{x y:Res}(hx:Keeps h (b9 false x))(hy:Keeps h (b9 false y)):Keeps h (b9 false (cond b x y)):=by cases b;exact hy;exact hx
theorem rE(op:BinOp)(l:Nat):Keeps h (b9 false (tj op l h)):=by
 cases op with
 | add=>unfold tj;rw [forceN_eq];exact dD (.val _) (.bad _)
 | _=>exact .bad _
theorem uk{op:BinOp}{l:Nat}{vs:List AV}{r:Res}(hg:nv op l vs h=some r):Keeps h (b9 false r):=by
 cases vs with
 | nil=>cases hg
 | cons v0 r0=>
  cases v0 with
  | str m c0=>
   unfold nv at hg
   dsimp only at hg
   cases hst:cf m (.str m c0::r0) with
   | false=>rw [hst] at hg;cases hg
   | true=>rw [hst] at hg;injection hg with hg;subst hg;exact rE ..
  | _=>cases hg
theorem ul{op:BinOp}{l:Nat}{vs:List AV}{r:Res}(hg:ny op l vs h=some r):Keeps h (b9 false r):=by
 cases vs with
 | nil=>cases hg
 | cons v0 r0=>
  cases v0 with
  | str m c0=>
   unfold ny at hg
   dsimp only at hg
   cases hst:cf m (.str m c0::r0) with
   | false=>rw [hst] at hg;cases hg
   | true=>rw [hst] at hg;injection hg with hg;subst hg;exact rE ..
  | _=>cases hg
theorem Ak(op:BinOp)(vs:List AV)(r:Res)(hg:jj op vs h=some r):Keeps h (b9 false r):=by
 unfold jj at hg
 split at hg
 ·split at hg
  ·cases hg
   refine dD ?_ (.bad _)
   unfold lE
   split<;>first | exact lg .. | exact pu .. | exact yk .. | exact .bad _
  ·cases hg
 ·split at hg
  all_goals first
   | (cases hg;exact dD (lg ..) (.bad _))
   | (cases hg;exact dD (pu ..) (.bad _))
   | cases hg
 ·split at hg
  ·cases hg
   unfold Cj
   split<;>first | exact dD (.val _) (.bad _) | exact .bad _
  ·cases hg
 ·unfold nt at hg
  split at hg
  ·split at hg
   ·cases hg;exact .val _
   ·cases hg
  ·cases hg
 ·unfold wS at hg
  split at hg
  ·cases hg;exact .val _
  ·cases hg;exact .val _
  ·cases hg
 ·have hlt:∀ y n lo hi m,nu y n lo hi m h=some r→Keeps h (b9 false r):=by
   intro y n lo hi m hg
   unfold nu at hg
   cases ha:Nat.ble hi m with
   | true=>rw [ha] at hg;cases hg;exact .val _
   | false=>
    rw [ha] at hg
    cases hb:Nat.ble m lo with
    | true=>rw [hb] at hg;cases hg;exact .val _
    | false=>rw [hb] at hg;cases hg
  unfold Ba at hg
  split at hg<;>first | exact hlt _ _ _ _ _ hg | cases hg
 ·exact uk hg
 ·exact ul hg
 ·cases hg
theorem yl(src dst:Nat)(vs:List AV)(r:Res)(hg:pQ P src dst vs h=some r):Keeps h (b9 false r):=by
 unfold pQ at hg
 split at hg
 ·split at hg
  ·split at hg
   ·cases hg;exact lg ..
   ·cases hg
  ·cases hg
 ·cases hg
theorem Al(ts:List Nat)(vs:List AV)(r:Res)(hg:Fq P ts vs h=some r):Keeps h (b9 false r):=by
 unfold Fq at hg
 split at hg
 ·split at hg
  ·cases hg;exact .val _
  ·cases hg
 ·split at hg
  ·cases hg;rw [forceN_eq];exact .val _
  ·cases hg
 ·cases hg
theorem ym(t:Nat)(vs:List AV)(r:Res)(hg:zb P t vs h=some r):Keeps h (b9 false r):=by
 unfold zb at hg
 split at hg
 ·rename_i k off
  split at hg
  ·split at hg
   ·rename_i lo _ _
    cases hc:and (Nat.blt off lo) (and (known P t) (not (isAggT P t))) with
    | false=>rw [hc] at hg;cases hg
    | true=>rw [hc] at hg;cases hg;exact .val _
   ·cases hg
  ·rename_i n c _
   cases hc:and (Nat.blt off n) (and (known P t) (not (isAggT P t))) with
   | false=>rw [hc] at hg;cases hg
   | true=>rw [hc] at hg;cases hg;rw [bv];exact .val _
  ·cases hg
 ·cases hg
theorem yn(t:Nat)(cok:Bool)(vs:List AV)(r:Res)(hg:za P t cok vs h=some r):Keeps h (b9 false r):=by
 unfold za at hg
 split at hg
 ·split at hg
  ·split at hg
   ·rename_i kt _ m l _ _ _ _ z _
    cases hi:intT P kt with
    | false=>rw [hi] at hg;cases hg
    | true=>
     rw [hi] at hg;cases hg
     unfold HH
     split
     ·exact dD (.val _) (.bad _)
     ·exact .bad _
   ·cases hg
  ·cases hg
 ·cases hg
theorem Am(t:Nat)(vs:List AV)(r:Res)(hg:Ft P t vs h=some r):Keeps h (b9 false r):=by
 unfold Ft at hg
 split at hg
 ·split at hg
  ·rename_i a b n _ _ e lo _ _ _
   cases hc:and (Nat.blt n lo) (Nat.beq (szOf P e) 1) with
   | false=>rw [hc] at hg;cases hg
   | true=>rw [hc] at hg;cases hg;exact .val _
  ·cases hg
 ·cases hg
theorem yo{o:Op}{l:Lift}(hl:bO P o=some l)(vs:List AV)(m:String):Keeps h (b9 false (HI l vs h m)):=by
 have key:∀ r,l.g vs h=some r→Keeps h (b9 false r):=by
  intro r hg
  cases o with
  | binOp op t x y z=>cases hl;exact Ak _ _ r hg
  | unOp=>cases hl;cases hg
  | convert s d x=>
   have hl:cond (zc P d) none (some (⟨[x],vN P s d,pQ P s d⟩:Lift))=some l:=hl
   cases hsl:zc P d with
   | true=>rw [hsl] at hl;cases hl
   | false=>rw [hsl] at hl;cases hl;exact yl _ _ _ r hg
  | index=>cases hl;cases hg
  | indexAddr=>cases hl;exact Am _ _ r hg
  | lookup=>cases hl;exact yn _ _ _ r hg
  | load=>cases hl;exact ym _ _ r hg
  | slice t x lo hi mx=>
   cases mx with
   | some _=>cases hl
   | none=>cases hl;cases hg
  | call c=>
   obtain⟨callee,⟨args⟩,ts⟩:=c
   cases callee with
   | builtin b=>cases b<;>first | (cases hl;exact Al _ _ r hg) | (cases hl;cases hg) | cases hl
   | _=>cases hl
  | _=>cases hl
 show Keeps h (b9 false (orG (l.g vs h) (jk l.f vs h m)))
 cases hg:l.g vs h with
 | some r=>exact key r hg
 | none=>exact yj _ _ _
theorem pv{T:Slots}(o:Op)(ha:lJ P o=false)(hmk:bj o=false):Keeps h (execD P o T h):=by
 have hp:=yi (P:=P) (h:=h) (T:=T) o ha hmk
 show Keeps h (b9 (or (lJ P o) (bj o)) (fD P (bO P o) T h (execP P o T h)))
 rw [ha,hmk]
 rcases hp with ⟨v,hv⟩ | ⟨m,hm⟩
 ·rw [hv]
  cases bO P o with
  | none=>exact .val _
  | some l=>exact .val _
 ·rw [hm]
  cases hl:bO P o with
  | none=>exact .bad _
  | some l=>exact yo hl _ _
theorem rF{w0:Base}{ρ:Rho}{w:World}{o:Oper}{T:Slots}{E:Operand→Value}(hn:NextOk P w0 ρ h w (execOp E o) (execA P o.op T h)):NextOk P w0 ρ h w (execOp E o) (execD P o.op T h):=by
 unfold execD b9
 split
 ·cases or (lJ P o.op) (bj o.op) with
  | true=>rename_i l e;rw [e] at hn;exact hn
  | false=>exact trivial
 ·exact hn
theorem yp(r:Res):b9 true r=r:=by cases r<;>rfl
theorem An{T:Slots}{o:Op}(hmk:bj o=true):execD P o T h=execP P o T h:=by
 unfold execD
 rw [hmk,Bool.or_true,yp]
 cases o<;>first | rfl | cases hmk
end
end Go.VM
namespace Go.VM
theorem jI{a b:ACap}(h:tL a b=true):a=b:=by
 cases a<;>cases b<;>simp [tL] at h<;>first | (rw [h]) | skip
theorem mz:∀ (d:Nat) (x y:AV),beqA d x y=true→x=y:=by
 intro d
 induction d with
 | zero=>intro x y h;simp [beqA] at h
 | succ d ih=>
  have ihL:∀ xs ys:List AV,beqL (beqA d) xs ys=true→xs=ys:=by
   intro xs
   induction xs with
   | nil=>intro ys h;cases ys with
    | nil=>rfl
    | cons=>simp [beqL] at h
   | cons a xs ihx=>intro ys h;cases ys with
    | nil=>simp [beqL] at h
    | cons b ys=>
     simp only [beqL,Bool.and_eq_true] at h
     rw [ih a b h.1,ihx ys h.2]
  intro x y h
  unfold beqA at h
  cases x with
  | bool a=>cases y<;>simp at h;rw [h]
  | int k a=>cases y with
   | int k' b=>simp only [Bool.and_eq_true] at h;rw [(intEq_iff a b).1 h.2,ai h.1]
   | _=>simp at h
  | float k a=>cases k<;>cases y<;>simp at h;rename_i k b;cases k<;>simp at h;rw [h]
  | str l a=>cases y<;>simp at h;rw [h.1,h.2]
  | nilPtr=>cases y<;>simp at h;rfl
  | ptr a o=>cases y<;>simp at h;rw [(Key.same_iff _ _).1 h.1,h.2]
  | nilSlice=>cases y<;>simp at h;rfl
  | slice a o l c=>cases y<;>simp at h;rw [(Key.same_iff _ _).1 h.1.1,h.1.2,h.2.1,jI h.2.2]
  | nilMap=>cases y<;>simp at h;rfl
  | map a=>cases y<;>simp at h;rw [(Key.same_iff _ _).1 h]
  | nilFunc=>cases y<;>simp at h;rfl
  | nilIface=>cases y<;>simp at h;rfl
  | iface t a=>cases y<;>simp at h;rw [h.1,ih _ _ h.2]
  | func f a b=>
   cases f with
   | yield l=>simp at h
   | func f=>
    cases y with
    | func g a' b'=>
     cases g with
     | yield l=>simp at h
     | func g=>simp at h;rw [h.1,ihL _ _ h.2.1,ihL _ _ h.2.2]
    | _=>simp at h
  | agg a=>cases y<;>simp at h;rw [ihL _ _ h]
  | tup a=>cases y<;>simp at h;rw [ihL _ _ h]
  | undef=>cases y<;>simp at h;rfl
  | emptyS=>simp at h
  | junk=>cases y<;>simp at h;rfl
  | red k m c j=>simp at h
  | reds k m c s=>simp at h
  | tab a ds xs=>cases y<;>simp at h;rw [(Key.same_iff _ _).1 h.1,h.2.1,ihL _ _ h.2.2]
  | ustr l=>cases y<;>simp at h;rw [h]
  | ofs a b c=>simp at h
  | sliceG a b=>simp at h
  | nan=>cases y<;>simp at h;rfl
  | rng lo hi=>cases y<;>simp at h;rw [h.1,h.2]
  | byte=>simp at h
theorem aO{i:Nat}:∀ {l:List Nat},elemN i l=true ↔ i ∈ l
 | []=>by simp [elemN]
 | j::r=>by
  unfold elemN
  cases h:Nat.beq i j with
  | true=>simp [Nat.eq_of_beq_eq_true h]
  | false=>
   have hne:i≠j:=by intro e;subst e;simp at h
   simp [aO (l:=r),hne]
theorem jJ{A:List Nat}:∀ {l:List Nat},jo l A=true ↔ ∀ i ∈ l,i ∈ A
 | []=>by simp [jo]
 | j::r=>by
  unfold jo
  cases h:elemN j A with
  | true=>simp [aO.1 h,jJ (l:=r)]
  | false=>
   have hne:j ∉ A:=fun e=>by rw [aO.2 e] at h;cases h
   simp [hne]
theorem mA{i:Nat}:∀ {n:Nat},i ∈ lL n ↔ i < n
 | 0=>by simp [lL]
 | n+1=>by simp [lL,mA (n:=n)];omega
theorem ll{i:Nat}{A:List Nat}:∀ {l:List Nat},i ∈ dv l A ↔ i ∈ l∧i ∉ A
 | []=>by simp [dv]
 | j::r=>by
  unfold dv
  cases h:elemN j A with
  | true=>
   have hj:=aO.1 h
   simp only [cond_true,ll (l:=r),List.mem_cons]
   constructor
   ·rintro ⟨a,b⟩;exact⟨.inr a,b⟩
   ·rintro ⟨a | a,b⟩
    ·subst a;exact absurd hj b
    ·exact⟨a,b⟩
  | false=>
   have hne:j ∉ A:=fun e=>by rw [aO.2 e] at h;cases h
   simp only [cond_false,List.mem_cons,ll (l:=r)]
   constructor
   ·rintro (a | a)
    ·subst a;exact⟨.inl rfl,hne⟩
    ·exact⟨.inr a.1,a.2⟩
   ·rintro ⟨a | a,b⟩
    ·exact .inl a
    ·exact .inr ⟨a,b⟩
theorem kM{an:List (List Nat)}{i:Nat}:∀ {l:List Nat},cu an i l=true→∀ x ∈ l,x=i∨i ∈ eU an x
 | [],_,x,hx=>by cases hx
 | y::r,h,x,hx=>by
  unfold cu at h
  cases hc:(cond (Nat.beq y i) true (elemN i (eU an y))) with
  | false=>rw [hc] at h;cases h
  | true=>
   rw [hc] at h
   cases hx with
   | head=>
    cases hb:Nat.beq y i with
    | true=>exact .inl (Nat.eq_of_beq_eq_true hb)
    | false=>rw [hb] at hc;exact .inr (aO.1 hc)
   | tail _ hx=>exact kM h x hx
theorem og{P:Program}{all:List Oper}{an ch:List Nat}:∀ {l:List Nat},asked P all an ch l=true→∀ j ∈ l,cg P all j=true∨eS all j=true∨j ∈ an∨j ∈ ch
 | [],_,x,hx=>by cases hx
 | y::r,h,x,hx=>by
  unfold asked at h
  cases hc:(cond (or (cg P all y) (eS all y)) true (cond (elemN y an) true (elemN y ch))) with
  | false=>rw [hc] at h;cases h
  | true=>
   rw [hc] at h
   cases hx with
   | head=>
    cases hb:cg P all y with
    | true=>exact .inl rfl
    | false=>
     cases hb1:eS all y with
     | true=>exact .inr (.inl rfl)
     | false=>
      rw [hb,hb1] at hc
      cases hb2:elemN y an with
      | true=>exact .inr (.inr (.inl (aO.1 hb2)))
      | false=>rw [hb2] at hc;exact .inr (.inr (.inr (aO.1 hc)))
   | tail _ hx=>exact og h x hx
end Go.VM
namespace Go.VM
theorem rT:∀ (n:Nat) (C:List Nat),C.Nodup→(∀ i ∈ C,i < n)→C.length≤n
 | 0,C,_,h=>by
  cases C with
  | nil=>simp
  | cons a r=>exact absurd (h a (by simp)) (by omega)
 | n+1,C,hn,h=>by
  by_cases hm:n ∈ C
  ·have h1:=rT n (C.erase n) (hn.erase n) (fun i hi=>by
    have h2:=(List.Nodup.mem_erase_iff hn).1 hi
    have:=h i h2.2;have:=h2.1;omega)
   rw [List.length_erase_of_mem hm] at h1
   omega
  ·have:=rT n C hn (fun i hi=>by have:=h i hi;have:i≠n:=fun e=>hm (e▸hi);omega)
   omega
theorem As{n:Nat}{C:List Nat}(hn:C.Nodup)(h:∀ i ∈ C,i < n)(hl:n≤C.length)(i:Nat)(hi:i < n):i ∈ C:=by
 by_cases hm:i ∈ C
 ·exact hm
 ·have:=rT n (i::C) (List.nodup_cons.2 ⟨hm,hn⟩) (fun j hj=>by
   cases hj with
   | head=>exact hi
   | tail _ hj=>exact h j hj)
  simp at this;omega
inductive Topo (ops:List Oper):List Nat→List Nat→Prop where
 | nil {C:List Nat} (h:∀ i,i < ops.length→i ∈ C):Topo ops C []
 | cons {C ord:List Nat} {i:Nat} {o:Oper} (ho:ops[i]?=some o) (hi:i ∉ C) (he:∀ j ∈ edgesOf o,j ∈ C) (hr:Topo ops (i::C) ord):Topo ops C (i::ord)
theorem oh(e:Edge):Region.binds .any e=tM e:=by
 unfold Region.binds tM
 cases e.ground<;>rfl
theorem eJ{j:Nat}:∀ {l:List Edge},j ∈ oS l ↔ ∃ e ∈ l,tM e=true∧e.on=j
 | []=>by simp [oS]
 | e::r=>by
  unfold oS
  cases h:tM e with
  | true=>
   simp only [cond_true,List.mem_cons,eJ (l:=r)]
   constructor
   ·rintro (rfl | ⟨e',h1,h2⟩)
    ·exact⟨e,.inl rfl,h,rfl⟩
    ·exact⟨e',.inr h1,h2⟩
   ·rintro ⟨e',rfl | h1,h2⟩
    ·exact .inl h2.2.symm
    ·exact .inr ⟨e',h1,h2⟩
  | false=>
   simp only [cond_false,List.mem_cons,eJ (l:=r)]
   constructor
   ·rintro ⟨e',h1,h2⟩;exact⟨e',.inr h1,h2⟩
   ·rintro ⟨e',rfl | h1,h2⟩
    ·rw [h] at h2;exact absurd h2.1 (by simp)
    ·exact⟨e',h1,h2⟩
theorem dW:∀ {ops:List Oper} {s i:Nat} {o:Oper},bQ s ops=true→ops[i]?=some o→∀ j ∈ edgesOf o,j < s+i
 | [],_,_,_,_,h,_,_=>by simp at h
 | p::r,s,0,o,h,ho,j,hj=>by
  unfold bQ at h
  simp at ho;subst ho
  cases hc:((edgesOf p).all fun j=>Nat.blt j s) with
  | false=>rw [hc] at h;cases h
  | true=>have:=List.all_eq_true.1 hc j hj;have:=blt_lt this;omega
 | p::r,s,i+1,o,h,ho,j,hj=>by
  unfold bQ at h
  cases hc:((edgesOf p).all fun j=>Nat.blt j s) with
  | false=>rw [hc] at h;cases h
  | true=>
   rw [hc] at h
   have:=dW (s:=s+1) h (by simpa using ho) j hj
   omega
def J4(n:Nat)(listed:Array Bool)(C:List Nat):Prop:=listed.size=n∧∀ i,i < n→(listed.getD i true=true ↔ i ∈ C)
theorem GG{ops:List Oper}(hf:bQ 0 ops=true):∀ (fuel t:Nat) (listed:Array Bool) (C:List Nat),J4 ops.length listed C→C.Nodup→(∀ i ∈ C,i < ops.length)→ops.length≤C.length+fuel→
  Topo ops C (Region.linearise.go .any ⟨ops⟩ fuel t listed []):=by
 intro fuel
 induction fuel with
 | zero=>
  intro t listed C hL hn hc hl
  exact .nil (As hn hc (by omega))
 | succ fuel ih=>
  intro t listed C hL hn hc hl
  have gT:∀ i,i < ops.length→∀ d,listed.getD i d=decide (i ∈ C):=by
   intro i hi d
   have hsz:i < listed.size:=by rw [hL.1];exact hi
   have e1:∀ d,listed.getD i d=listed[i]:=fun d=>by simp [Array.getD_eq_getD_getElem?,Array.getElem?_eq_getElem hsz]
   have:=hL.2 i hi
   rw [e1] at this ⊢
   by_cases hm:i ∈ C
   ·simp [hm,this.2 hm]
   ·simp only [hm,decide_false];rw [Bool.eq_false_iff];exact fun e=>hm (this.1 e)
  have gF:∀ i,¬ i < ops.length→listed.getD i false=false:=by
   intro i hi
   have hsz:listed.size≤i:=by rw [hL.1];omega
   simp [Array.getD_eq_getD_getElem?,Array.getElem?_eq_none hsz]
  have rdy:∀ j,j ∈ Region.ready .any ⟨ops⟩ listed→∃ o,ops[j]?=some o∧j ∉ C∧∀ x ∈ edgesOf o,x ∈ C:=by
   intro j hj
   obtain⟨h0,o,ho,he⟩:=mem_ready.1 hj
   have ho':ops[j]?=some o:=by simpa using ho
   have hj':j < ops.length:=(List.getElem?_eq_some_iff.1 ho').1
   rw [gT j hj'] at h0
   refine⟨o,ho',by simpa using h0,fun x hx=>?_⟩
   obtain⟨e,hem,hb,rfl⟩:=eJ.1 hx
   have:=he e (by simpa using hem) (by rw [oh];exact hb)
   by_cases hlt:e.on < ops.length
   ·rw [gT _ hlt] at this;simpa using this
   ·rw [gF _ hlt] at this;cases this
  show Topo ops C (Region.linearise.go .any ⟨ops⟩ (fuel+1) t listed [])
  unfold Region.linearise.go
  have hrs:((List.range (⟨ops⟩:Array Oper).size).filter fun i=>!listed.getD i true && (((⟨ops⟩:Array Oper)[i]?).map (·.after.all fun e=>!Region.binds .any e || listed.getD e.on false)).getD false)=Region.ready .any ⟨ops⟩ listed:=rfl
  simp only [hrs]
  cases hg:(Region.ready .any ⟨ops⟩ listed)[t % (Region.ready .any ⟨ops⟩ listed).length]? with
  | some i=>
   dsimp only
   rw [linearise_go_acc]
   have hmem:i ∈ Region.ready .any ⟨ops⟩ listed:=List.mem_of_getElem? hg
   obtain⟨o,ho,hi,he⟩:=rdy i hmem
   have hilt:i < ops.length:=(List.getElem?_eq_some_iff.1 ho).1
   refine .cons ho hi he (ih _ _ (i::C) ⟨by simp [hL.1],fun k hk=>?_⟩ (List.nodup_cons.2 ⟨hi,hn⟩) (fun k hk=>?_) (by simp;omega))
   ·by_cases hik:i=k
    ·subst hik
     have:i < listed.size:=by rw [hL.1];exact hk
     simp [Array.getD_eq_getD_getElem?,this]
    ·rw [getD_set_ne true hik,gT k hk]
     have hki:k≠i:=fun e=>hik e.symm
     simp [hki]
   ·cases hk with
    | head=>exact hilt
    | tail _ hk=>exact hc k hk
  | none=>
   refine .nil ?_
   have hempty:Region.ready .any ⟨ops⟩ listed=[]:=by
    cases hr:Region.ready .any ⟨ops⟩ listed with
    | nil=>rfl
    | cons a r=>
     rw [hr] at hg
     rw [List.getElem?_eq_none_iff] at hg
     have:=Nat.mod_lt t (show 0 < (a::r).length by simp)
     omega
   have key:∀ m i,i≤m→i < ops.length→i ∈ C:=by
    intro m
    induction m with
    | zero=>
     intro i him hi
     apply Classical.byContradiction
     intro hnot
     have:i ∈ Region.ready .any ⟨ops⟩ listed:=by
      refine mem_ready.2 ⟨by rw [gT i hi];simpa using hnot,ops[i],by simp [hi],fun e he hb=>?_⟩
      have:=dW hf (List.getElem?_eq_getElem hi) e.on (eJ.2 ⟨e,by simpa using he,by rw [←oh];exact hb,rfl⟩)
      omega
     rw [hempty] at this;cases this
    | succ m ihm=>
     intro i him hi
     apply Classical.byContradiction
     intro hnot
     have:i ∈ Region.ready .any ⟨ops⟩ listed:=by
      refine mem_ready.2 ⟨by rw [gT i hi];simpa using hnot,ops[i],by simp [hi],fun e he hb=>?_⟩
      have hlt:=dW hf (List.getElem?_eq_getElem hi) e.on (eJ.2 ⟨e,by simpa using he,by rw [←oh];exact hb,rfl⟩)
      have:=ihm e.on (by omega) (by omega)
      rw [gT e.on (by omega)];simpa using this
     rw [hempty] at this;cases this
   exact fun i hi=>key i i (Nat.le_refl _) hi
theorem uq{ops:List Oper}(hf:bQ 0 ops=true)(t:Nat):Topo ops [] (Region.schedule true ⟨ops⟩ t):=by
 unfold Region.schedule
 simp only [Bool.true_or,if_true]
 unfold Region.linearise
 exact GG hf _ _ _ [] ⟨by simp,fun i hi=>by simp [Array.getD_eq_getD_getElem?,hi]⟩ List.nodup_nil (by simp) (by simp)
end Go.VM
namespace Go.VM
theorem yA{x i:Nat}{l:List Nat}(h:x ∈ H5 i l):x=i∨x ∈ l:=by
 unfold H5 at h
 cases hb:elemN i l with
 | true=>rw [hb] at h;exact .inr h
 | false=>rw [hb] at h;simpa using h
theorem rU{x:Nat}{l:List Nat}:∀ {a:List Nat},x ∈ wW a l→x ∈ a∨x ∈ l
 | [],h=>.inr h
 | i::r,h=>by
  unfold wW at h
  rcases yA h with h | h
  ·exact .inl (by simp [h])
  ·rcases rU h with h | h
   ·exact .inl (by simp [h])
   ·exact .inr h
theorem vq{acc:List (List Nat)}{j:Nat}:∀ {l:List Nat},j ∈ pR acc l→∃ e ∈ l,j=e∨j ∈ acc.getD e []
 | [],h=>by cases h
 | e::r,h=>by
  unfold pR at h
  rcases yA h with h | h
  ·exact⟨e,by simp,.inl h⟩
  ·rcases rU h with h | h
   ·exact⟨e,by simp,.inr h⟩
   ·obtain⟨e,he,hj⟩:=vq h;exact⟨e,by simp [he],hj⟩
theorem iM:∀ (r:List Oper) (acc:List (List Nat)) (k:Nat),k < acc.length→(dL r acc).getD k []=acc.getD k []
 | [],acc,k,_=>rfl
 | o::r,acc,k,hk=>by
  unfold dL
  rw [iM r _ k (by rw [cat_eq];simp;omega),cat_eq]
  simp [List.getD,List.getElem?_append_left hk]
theorem ol:∀ (r:List Oper) (acc:List (List Nat)),bQ acc.length r=true→∀ i o,r[i]?=some o→∀ j ∈ (dL r acc).getD (acc.length+i) [],∃ e ∈ edgesOf o,j=e∨j ∈ (dL r acc).getD e []
 | [],acc,_,i,o,ho,_,_=>by simp at ho
 | p::r,acc,hf,0,o,ho,j,hj=>by
  simp at ho;subst ho
  have hall:∀ x ∈ edgesOf p,x < acc.length:=fun x hx=>by have:=dW hf (i:=0) (o:=p) (by simp) x hx;omega
  unfold dL at hj ⊢
  rw [Nat.add_zero] at hj
  rw [iM r _ acc.length (by rw [cat_eq];simp),cat_eq] at hj
  have e1:(acc++[pR acc (edgesOf p)]).getD acc.length []=pR acc (edgesOf p):=by simp [List.getD]
  rw [e1] at hj
  obtain⟨e,he,h⟩:=vq hj
  refine⟨e,he,h.imp id fun h=>?_⟩
  rw [iM r _ e (by rw [cat_eq];simp;have:=hall e he;omega),cat_eq]
  simp [List.getD,List.getElem?_append_left (hall e he)]
  simpa [List.getD] using h
 | p::r,acc,hf,i+1,o,ho,j,hj=>by
  unfold dL at hj ⊢
  have hlen:(cat acc [pR acc (edgesOf p)]).length=acc.length+1:=by rw [cat_eq];simp
  have hf':bQ (cat acc [pR acc (edgesOf p)]).length r=true:=by
   rw [hlen]
   unfold bQ at hf
   cases hc:((edgesOf p).all fun j=>Nat.blt j acc.length) with
   | false=>rw [hc] at hf;cases hf
   | true=>rw [hc] at hf;exact hf
  exact ol r _ hf' i o (by simpa using ho) j (by rw [hlen];rw [show acc.length+1+i=acc.length+(i+1) by omega];exact hj)
def oo(ops:List Oper)(C:List Nat):Prop:=∀ i ∈ C,∀ o,ops[i]?=some o→∀ j ∈ edgesOf o,j ∈ C
theorem EB{ops:List Oper}(hf:bQ 0 ops=true){C:List Nat}(hC:oo ops C):∀ (m i:Nat),i≤m→∀ o,ops[i]?=some o→(∀ j ∈ edgesOf o,j ∈ C)→∀ j ∈ eU (dL ops []) i,j ∈ C:=by
 intro m
 induction m with
 | zero=>
  intro i hi o ho he j hj
  have hi0:i=0:=by omega
  subst hi0
  obtain⟨e,hem,h⟩:=ol ops [] hf 0 o ho j (by simpa [eU] using hj)
  have:=dW hf ho e hem
  omega
 | succ m ih=>
  intro i hi o ho he j hj
  obtain⟨e,hem,h⟩:=ol ops [] hf i o ho j (by simpa [eU] using hj)
  rcases h with rfl | h
  ·exact he _ hem
  ·have hlt:=dW hf ho e hem
   have hil:i < ops.length:=(List.getElem?_eq_some_iff.1 ho).1
   have hel:e < ops.length:=by omega
   refine ih e (by omega) ops[e] (List.getElem?_eq_getElem hel) (fun x hx=>hC e (he e hem) _ (List.getElem?_eq_getElem hel) x hx) j h
theorem gZ:∀ (es:List Nat) (ops:List Oper) (s n t:Nat) (r:ST),(Slots.mk n (maskGo es s ops r)).get t=.junk∨(Slots.mk n (maskGo es s ops r)).get t=(Slots.mk n r).get t
 | es,[],s,n,t,r=>.inr rfl
 | es,o::ops,s,n,t,r=>by
  unfold maskGo
  cases he:elemN s es with
  | true=>exact gZ es ops (s+1) n t r
  | false=>
   cases hd:o.dst with
   | none=>exact gZ es ops (s+1) n t r
   | some d=>
    dsimp only [cond_false]
    rcases gZ es ops (s+1) n t (r.set .junk (keyOf d)) with h | h
    ·exact .inl h
    ·by_cases hdt:d=t
     ·subst hdt;left;rw [h,Slots.get_set_same]
     ·right;rw [h,Slots.get_set_other _ _ _ _ _ hdt]
theorem fq:∀ (es:List Nat) (ops:List Oper) (s n t i:Nat) (r:ST) (o:Oper),ops[i]?=some o→o.dst=some t→elemN (s+i) es=false→(Slots.mk n (maskGo es s ops r)).get t=.junk
 | es,[],s,n,t,i,r,o,ho,_,_=>by simp at ho
 | es,p::ops,s,n,t,0,r,o,ho,hd,he=>by
  simp at ho;subst ho
  unfold maskGo
  rw [Nat.add_zero] at he
  rw [he,hd]
  dsimp only [cond_false]
  rcases gZ es ops (s+1) n t (r.set .junk (keyOf t)) with h | h
  ·exact h
  ·rw [h,Slots.get_set_same]
 | es,p::ops,s,n,t,i+1,r,o,ho,hd,he=>by
  unfold maskGo
  exact fq es ops (s+1) n t i _ o (by simpa using ho) hd (by rw [show s+1+i=s+(i+1) by omega];exact he)
theorem c5:∀ (es:List Nat) (ops:List Oper) (s n t:Nat) (r:ST),(∀ i o,ops[i]?=some o→o.dst=some t→elemN (s+i) es=true)→(Slots.mk n (maskGo es s ops r)).get t=(Slots.mk n r).get t
 | es,[],s,n,t,r,_=>rfl
 | es,o::ops,s,n,t,r,h=>by
  unfold maskGo
  have hrest:∀ i o',ops[i]?=some o'→o'.dst=some t→elemN (s+1+i) es=true:=fun i o' ho hd=>by
   have:=h (i+1) o' (by simpa using ho) hd
   rw [show s+1+i=s+(i+1) by omega];exact this
  cases he:elemN s es with
  | true=>exact c5 es ops (s+1) n t r hrest
  | false=>
   cases hd:o.dst with
   | none=>exact c5 es ops (s+1) n t r hrest
   | some d=>
    dsimp only [cond_false]
    rw [c5 es ops (s+1) n t _ hrest]
    by_cases hdt:d=t
    ·subst hdt
     have:=h 0 o (by simp) hd
     rw [Nat.add_zero,he] at this;cases this
    ·rw [Slots.get_set_other _ _ _ _ _ hdt]
end Go.VM
namespace Go.VM
section
variable {P:Program} {fr:Frame} {CS:List Frame} {w:World} {k:List Item}
theorem EC(hm:fr.mode=.run)(hr:fr.roundOf=none)(ht:fr.todo=[]):step P (lone fr CS w)=.next (lone { fr with mode:=.returning } CS w):=
 step_lone_go (by simp [stepG,stepG.exec,hm,hr,ht])
theorem ED(hm:fr.mode=.run)(hr:fr.roundOf=none)(ht:fr.todo=.code .ret::k):step P (lone fr CS w)=.next (lone { fr with mode:=.returning } CS w):=
 step_lone_go (by simp [stepG,stepG.exec,hm,hr,ht])
theorem GH(hm:fr.mode=.run)(ht:fr.todo=.code .skip::k):step P (lone fr CS w)=.next (lone { fr with todo:=k } CS w):=
 step_lone_go (by simp [stepG,stepG.exec,hm,ht])
theorem EE{l:Nat}(hm:fr.mode=.run)(ht:fr.todo=.code (.label l)::k):step P (lone fr CS w)=.next (lone { fr with todo:=k } CS w):=
 step_lone_go (by simp [stepG,stepG.exec,hm,ht])
theorem Au{id:Nat}(hm:fr.mode=.run)(ht:fr.todo=.inBlock id::k):step P (lone fr CS w)=.next (lone { fr with todo:=k } CS w):=
 step_lone_go (by simp [stepG,stepG.exec,hm,ht])
theorem Av{c:Code}(hm:fr.mode=.run)(ht:fr.todo=.inScope c::k):step P (lone fr CS w)=.next (lone { fr with todo:=k } CS w):=
 step_lone_go (by simp [stepG,stepG.exec,hm,ht])
theorem I6{a b:Code}(hm:fr.mode=.run)(ht:fr.todo=.code (.seq a b)::k):step P (lone fr CS w)=.next (lone { fr with todo:=.code a::.code b::k } CS w):=
 step_lone_go (by simp [stepG,stepG.exec,hm,ht])
theorem GI{x:Operand}{a b:Code}{t:Bool}(hm:fr.mode=.run)(ht:fr.todo=.code (.cond x a b)::k)(hx:fr.eval x=.bool t):step P (lone fr CS w)=.next (lone { fr with todo:=.code (if t then a else b)::k } CS w):=
 step_lone_go (by simp [stepG,stepG.exec,hm,ht,hx])
theorem EF{id:Nat}{a:Code}(hm:fr.mode=.run)(ht:fr.todo=.code (.block id a)::k):step P (lone fr CS w)=.next (lone { fr with todo:=.code a::.inBlock id::k } CS w):=
 step_lone_go (by simp [stepG,stepG.exec,hm,ht])
theorem GJ{a:Code}(hm:fr.mode=.run)(ht:fr.todo=.code (.loop a)::k):step P (lone fr CS w)=.next (lone { fr with todo:=.code a::.inLoop a::k } CS w):=
 step_lone_go (by simp [stepG,stepG.exec,hm,ht])
theorem DC{a:Code}(hm:fr.mode=.run)(ht:fr.todo=.inLoop a::k):step P (lone fr CS w)=.next (lone { fr with todo:=.code a::.inLoop a::k } CS w):=
 step_lone_go (by simp [stepG,stepG.exec,hm,ht])
theorem EG{a:Code}(hm:fr.mode=.run)(ht:fr.todo=.code (.scope a)::k):step P (lone fr CS w)=.next (lone { fr with todo:=.code a::.inScope a::k } CS w):=
 step_lone_go (by simp [stepG,stepG.exec,hm,ht])
theorem GK{id:Nat}{k':List Item}(hm:fr.mode=.run)(ht:fr.todo=.code (.exit id)::k)(hk:exitTo id k=some k'):step P (lone fr CS w)=.next (lone { fr with todo:=k' } CS w):=
 step_lone_go (by simp [stepG,stepG.exec,hm,ht,hk])
theorem GL{l:Nat}{k':List Item}(hm:fr.mode=.run)(ht:fr.todo=.code (.goto l)::k)(hk:gotoIn l k=some k'):step P (lone fr CS w)=.next (lone { fr with todo:=k' } CS w):=
 step_lone_go (by simp [stepG,stepG.exec,hm,ht,hk])
theorem DD{id:Nat}{ops:Array Oper}(hm:fr.mode=.run)(ht:fr.todo=.code (.region id ops false)::k):step P (lone fr CS w)=.next (lone { fr with todo:=.inRegion ops (List.range ops.size)::k } CS w):=
 step_lone_go (by simp [stepG,stepG.exec,hm,ht])
theorem GM{id:Nat}{ops:Array Oper}(hm:fr.mode=.run)(ht:fr.todo=.code (.region id ops true)::k):
  ∃ t,step P (lone fr CS w)=.next (lone { fr with todo:=.inRegion ops (Region.schedule (P.follows .mixedOrders) ops t)::k } CS w.drew):=
 ⟨w.tape w.drawn (.order fr.fn id),step_lone_go (by simp [stepG,stepG.exec,hm,ht,choose,Sem.run,Question.forced,Question.cut])⟩
theorem kP{ops:Array Oper}(hm:fr.mode=.run)(ht:fr.todo=.inRegion ops []::k):step P (lone fr CS w)=.next (lone { fr with todo:=k } CS w):=
 step_lone_go (by simp [stepG,stepG.exec,hm,ht])
theorem lm{ops:Array Oper}{i:Nat}{rest:List Nat}{o:Oper}(hm:fr.mode=.run)(ht:fr.todo=.inRegion ops (i::rest)::k)(ho:ops[i]?=some o)(hw:Region.wanted o (yielded ops fr.tmps)=false):
  step P (lone fr CS w)=.next (lone (fr.finish Go.undef) CS w):=
 step_lone_go (by simp [stepG,stepG.exec,hm,ht,ho,hw])
theorem d8{ops:Array Oper}{i:Nat}{rest:List Nat}{o:Oper}(hm:fr.mode=.run)(hr:fr.roundOf=none∨∀ c,o.op≠.defer c)(ht:fr.todo=.inRegion ops (i::rest)::k)(ho:ops[i]?=some o)(hw:Region.wanted o (yielded ops fr.tmps)=true):
  stepG P true { frame:=fr,callers:=CS,status:=.running,dying:=none } w=stepG.apply P true fr CS none (execOp fr.eval o) w:=by
 have hop:stepG.oper P true fr CS none w=stepG.apply P true fr CS none (execOp fr.eval o) w:=by
  unfold stepG.oper
  simp only [Frame.oper?,ht,ho]
  rcases hr with hr | hr
  ·rw [hr]
  ·split
   ·rename_i c heq;exact absurd heq (hr _)
   ·rfl
 simp [stepG,stepG.exec,hm,ht,ho,hw,hop]
theorem iN{ops:Array Oper}{i:Nat}{rest:List Nat}{o:Oper}{V:Value}{w':World}(hm:fr.mode=.run)(hr:fr.roundOf=none∨∀ c,o.op≠.defer c)(ht:fr.todo=.inRegion ops (i::rest)::k)(ho:ops[i]?=some o)(hw:Region.wanted o (yielded ops fr.tmps)=true)
  (hrun:(execOp fr.eval o).run P w=.ok (.value V) w'):step P (lone fr CS w)=.next (lone (fr.finish V) CS w'):=
 step_lone_go (by rw [d8 hm hr ht ho hw];simp [stepG.apply,hrun])
theorem wo{ops:Array Oper}{i:Nat}{rest:List Nat}{o:Oper}{w':World}(hm:fr.mode=.run)(hr:fr.roundOf=none∨∀ c,o.op≠.defer c)(ht:fr.todo=.inRegion ops (i::rest)::k)(ho:ops[i]?=some o)(hw:Region.wanted o (yielded ops fr.tmps)=true)
  (hrun:(execOp fr.eval o).run P w=.ok .skip w'):step P (lone fr CS w)=.next (lone (fr.finish Go.undef) CS w'):=
 step_lone_go (by rw [d8 hm hr ht ho hw];simp [stepG.apply,hrun])
theorem yB{ops:Array Oper}{i:Nat}{rest:List Nat}{o:Oper}{f:FuncId}{args:Array Value}{w':World}(hm:fr.mode=.run)(hr:fr.roundOf=none∨∀ c,o.op≠.defer c)(ht:fr.todo=.inRegion ops (i::rest)::k)(ho:ops[i]?=some o)(hw:Region.wanted o (yielded ops fr.tmps)=true)
  (hrun:(execOp fr.eval o).run P w=.ok (.enter f args) w'):step P (lone fr CS w)=.next (lone (Frame.enter P f args .normal) (fr::CS) w'):=
 step_lone_go (by rw [d8 hm hr ht ho hw];simp [stepG.apply,hrun,ht])
theorem yC{ops:Array Oper}{i:Nat}{rest:List Nat}{o:Oper}{d:Deferred}{w':World}(hm:fr.mode=.run)(hr:fr.roundOf=none)(ht:fr.todo=.inRegion ops (i::rest)::k)(ho:ops[i]?=some o)(hw:Region.wanted o (yielded ops fr.tmps)=true)
  (hrun:(execOp fr.eval o).run P w=.ok (.defer d) w'):step P (lone fr CS w)=.next (lone ({ fr with defers:=d::fr.defers }.finish Go.undef) CS w'):=
 step_lone_go (by rw [d8 hm (.inl hr) ht ho hw];simp [stepG.apply,hrun])
theorem EH{ops:Array Oper}{i:Nat}{rest:List Nat}{o:Oper}{v:Value}{w':World}(hm:fr.mode=.run)(hr:fr.roundOf=none)(ht:fr.todo=.inRegion ops (i::rest)::k)(ho:ops[i]?=some o)(hw:Region.wanted o (yielded ops fr.tmps)=true)
  (hrun:(execOp fr.eval o).run P w=.halt (.panic v) w'):step P (lone fr CS w)=.next (lone (fr.raise [{ v,recovered:=false }]) CS w'):=
 step_lone_go (by rw [d8 hm (.inl hr) ht ho hw];simp [stepG.apply,hrun])
theorem rW{ops:Array Oper}{i:Nat}{rest:List Nat}{o:Oper}{w':World}(hm:fr.mode=.run)(hr:fr.roundOf=none)(ht:fr.todo=.inRegion ops (i::rest)::k)(ho:ops[i]?=some o)(hw:Region.wanted o (yielded ops fr.tmps)=true)
  (hrun:(execOp fr.eval o).run P w=.ok .recover w'):step P (lone fr CS w)=.next (match tryRecover fr CS with | some (v,CS')=>lone (fr.finish v) CS' w' | none=>lone (fr.finish .nilIface) CS w'):=by
 cases ht':tryRecover fr CS with
 | none=>exact step_lone_go (by rw [d8 hm (.inl hr) ht ho hw];simp [stepG.apply,hrun,hr,ht'])
 | some x=>obtain⟨v,CS'⟩:=x;exact step_lone_go (by rw [d8 hm (.inl hr) ht ho hw];simp [stepG.apply,hrun,hr,ht'])
theorem EI{ops:Array Oper}{i:Nat}{rest:List Nat}{o:Oper}{l:Nat}{f:FuncId}{t:Array Value}{a b:Code}{w':World}(hm:fr.mode=.run)(hr:fr.roundOf=none∨∀ c,o.op≠.defer c)(ht:fr.todo=.inRegion ops (i::rest)::k)(ho:ops[i]?=some o)(hw:Region.wanted o (yielded ops fr.tmps)=true)
  (hrun:(execOp fr.eval o).run P w=.ok (.round l f t a b) w'):step P (lone fr CS w)=.next (lone (Frame.round l f t a b .normal) (fr::CS) w'):=
 step_lone_go (by rw [d8 hm hr ht ho hw];simp [stepG.apply,hrun])
theorem yD{l:Nat}{c:Frame}{v:Value}{w':World}(hm:fr.mode=.run)(hr:fr.roundOf=some l)(hk:fr.kind=.normal)(ht:fr.todo=[])(hrun:(Instr.endRound l none).run P w=.ok v w'):
  step P (lone fr (c::CS) w)=.next (lone (c.finish v) CS w'):=
 step_lone_go (by simp [stepG,stepG.exec,hm,hr,ht,hrun,doReturn,hk])
theorem EJ{l:Nat}{w':World}(hm:fr.mode=.run)(hr:fr.roundOf=some l)(ht:fr.todo=.beginRound::k)(hrun:(Instr.beginRound l).run P w=.ok () w'):
  step P (lone fr CS w)=.next (lone { fr with todo:=k } CS w'):=
 step_lone_go (by simp [stepG,stepG.exec,stepG.apply,hm,hr,ht,hrun,Frame.finish])
theorem yE{l:Nat}{w':World}(hm:fr.mode=.run)(ht:fr.todo=.endRangeFunc l::k)(hrun:(Instr.endLoop l).run P w=.ok none w'):
  step P (lone fr CS w)=.next (lone { fr with todo:=k } CS w'):=
 step_lone_go (by simp [stepG,stepG.exec,hm,ht,hrun])
theorem EK{f:Operand}{ps:Array Tmp}{a b:Code}{l:Nat}{mk:List Deferred}{w':World}{g:FuncId}{args:Array Value}(hm:fr.mode=.run)(hr:fr.roundOf=none)(ht:fr.todo=.code (.rangeFunc f ps a b)::k)
  (hrun:(Instr.enterLoop fr.fn fr.tmps ps a b none).run P w=.ok (l,mk) w') (hcall:(do let d ←Deferred.ofValue (fr.eval f) #[.func (.yield l) #[] #[]];invoke d.target d.args:Sem Next).run P w'=.ok (.enter g args) w'):
  step P (lone fr CS w)=.next (lone (Frame.enter P g args .normal) ({ fr with todo:=.inRangeFunc l::k,defers:=mk++fr.defers }::CS) w'):=by
 refine step_lone_go ?_
 have hX:∀ X:Frame,X.tmps=fr.tmps→((resolve X.eval { callee:=.value f,args:=#[.const (.func (.yield l) #[] #[])],argTypes:=#[] } 0).run P w').andThen (fun a w'=>(invoke a.target a.args).run P w')=.ok (.enter g args) w':=by
  intro X hX
  have hev:X.eval f=fr.eval f:=by cases f<;>simp [Frame.eval,hX]
  have e:Array.map X.eval #[Operand.const (.func (.yield l) #[] #[])]=#[.func (.yield l) #[] #[]]:=by simp [Frame.eval]
  have hr:resolve X.eval { callee:=.value f,args:=#[.const (.func (.yield l) #[] #[])],argTypes:=#[] } 0=Deferred.ofValue (fr.eval f) #[.func (.yield l) #[] #[]]:=by
   show Deferred.ofValue (X.eval f) (Array.map X.eval #[Operand.const (.func (.yield l) #[] #[])])=_
   rw [hev,e]
  rw [hr,←hcall,Sem.run_bind]
 simp [stepG,stepG.exec,hm,hr,ht,hrun,stepG.apply,hX]
theorem wp{b:Nat}{x:Array Value}{ds calls:List Deferred}{w':World}(hm:fr.mode≠.run)(hd:fr.defers={ target:=.collected b,args:=x }::ds)(hrun:(Instr.takeDeferred b).run P w=.ok calls w'):
  step P (lone fr CS w)=.next (lone { fr with defers:=calls++ds } CS w'):=by
 refine step_lone_go ?_
 have:stepG P true { frame:=fr,callers:=CS,status:=.running,dying:=none } w=unwind P true fr CS none w:=by
  unfold stepG
  cases hmm:fr.mode with
  | run=>exact absurd hmm hm
  | returning=>simp [hmm]
  | panicking c=>simp [hmm]
 rw [this]
 simp [unwind,hd,hrun]
end
end Go.VM
noncomputable section
namespace Go.VM
def RT.del{α:Type}(k:Key)(t:RT α):RT α:=RT.setO none k t
theorem RT.get_del_same{α:Type}(k:Key)(t:RT α):(RT.del k t).get k=none:=RT.get_setO_same none k t
theorem RT.get_del_other{α:Type}(k k':Key)(t:RT α)(h:k≠k'):(RT.del k t).get k'=t.get k':=RT.get_setO_other none k k' t h
section
variable {P:Program} {w0:Base} {ρ:Rho} {h h':Heap} {w:World}
theorem Sim.ext(hs:Sim w0 ρ h w)(he:∀ b L,ρ b=some L→h'.get b=h.get b):Sim w0 ρ h' w:=
 ⟨hs.os,hs.out,hs.size,hs.old,hs.sub,fun b L e=>by rw [he b L e];exact hs.obj b L e,
  fun b b' L L' o o' e e' g g' l l' hB=>hs.inj b b' L L' o o' e e' (by rw [←he b L e];exact g) (by rw [←he b' L' e'];exact g') l l' hB⟩
def yG(P:Program)(op:Op)(T:Slots)(ob:AObj)(vf:Key→AV):Prop:=∀ h:Heap,execD P op T h=h.alloc ob (fun b h=>.val (vf b) h)
theorem yH(e l c:Nat)(z:AV):∃ (ob:AObj) (vf:Key→AV),∀ h:Heap,yV P e l c z h=h.alloc ob (fun b h=>.val (vf b) h):=by
 unfold yV
 cases tl P e c z with
 | true=>exact⟨.pack e (c / 256) RT.nil,fun b=>.slice b 0 l (.is c),fun h=>rfl⟩
 | false=>
  cases and (isF z) (Nat.ble 4096 c) with
  | true=>exact⟨.bits e c 0,fun b=>.slice b 0 l (.is c),fun h=>rfl⟩
  | false=>exact⟨.cells e (rep c z.cells) false 0,fun b=>.slice b 0 l (.is c),fun h=>rfl⟩
theorem yI{op:Op}(hm:bj op=true)(T:Slots):(∃ ob vf,yG P op T ob vf)∨(∀ h:Heap,∃ m,execD P op T h=.bad m):=by
 unfold yG
 simp only [An hm]
 cases op with
 | alloc e=>
  cases hz:bi P e with
  | none=>exact .inr fun h=>⟨_,by show ie P e h=_;unfold ie;rw [hz]⟩
  | some z=>exact .inl ⟨_,_,fun h=>by show ie P e h=_;unfold ie;rw [hz]⟩
 | box e v=>
  cases hc:(ev P T v).sure with
  | false=>exact .inr fun h=>⟨_,by show xBox e (ev P T v) h=_;unfold xBox;rw [hc];rfl⟩
  | true=>exact .inl ⟨.cells e (ev P T v).cells false 0,fun b=>.ptr b 0,fun h=>by show xBox e (ev P T v) h=_;unfold xBox;rw [hc];rfl⟩
 | makeMap t r=>
  cases hc:lC P t (jZ P T r) with
  | false=>exact .inr fun h=>⟨_,by show cond (lC P t (jZ P T r)) _ _=_;rw [hc];rfl⟩
  | true=>exact .inl ⟨.map [] 0,fun b=>.map b,fun h=>by show cond (lC P t (jZ P T r)) _ _=_;rw [hc];rfl⟩
 | buildSlice t n ps=>
  have key:(∃ (ob:AObj) (vf:Key→AV),∀ h:Heap,c8 P t n (iz P T ps.toList) h=h.alloc ob (fun b h=>.val (vf b) h))∨(∀ h:Heap,∃ m,c8 P t n (iz P T ps.toList) h=.bad m):=by
   unfold c8
   split
   ·split
    ·rename_i z _
     cases hc:(and (Nat.beq (len z.cells) (szOf P _)) (Nat.ble (n * szOf P _) 16777216)) with
     | false=>exact .inr fun h=>⟨_,rfl⟩
     | true=>
      dsimp only [cond_true]
      split
      ·exact .inl ⟨_,_,fun h=>rfl⟩
      ·exact .inr fun h=>⟨_,rfl⟩
    ·exact .inr fun h=>⟨_,rfl⟩
   ·exact .inr fun h=>⟨_,rfl⟩
  exact key
 | makeSlice t l c=>
  have key:(∃ (ob:AObj) (vf:Key→AV),∀ h:Heap,cO P t (ev P T l) (ev P T c) h=h.alloc ob (fun b h=>.val (vf b) h))∨(∀ h:Heap,∃ m,cO P t (ev P T l) (ev P T c) h=.bad m):=by
   unfold cO
   split
   ·split
    ·generalize (and _ _)=c
     cases c with
     | false=>exact .inr fun h=>⟨_,rfl⟩
     | true=>
      dsimp only [cond_true]
      exact .inl (yH ..)
    ·exact .inr fun h=>⟨_,rfl⟩
   ·exact .inr fun h=>⟨_,rfl⟩
  exact key
 | _=>simp [bj] at hm
theorem GP(hP:TypesOk P)(hs:Sim w0 ρ h w){T:Slots}{E:Operand→Value}(hE:ma P ρ T E){o:Oper}{ob:AObj}{vf:Key→AV}(hmk:yG P o.op T ob vf){b:Key}(hb:h.get b=some ob)(hn:ρ b=none):
  ∃ ρ' w',Sub ρ ρ'∧(∀ k,k≠b→ρ k=none→(∃ x,h.get k=some x)→ρ' k=none)∧Sim w0 ρ' h w'∧((∃ V,Rel ρ' (vf b) V∧(execOp E o).run P w=.ok (.value V) w')∨(vf b=.undef∧(execOp E o).run P w=.ok .skip w')):=by
 obtain⟨t,nx⟩:=h
 have hs2:Sim w0 ρ (.mk (RT.del b t) b) w:=hs.ext fun k L e=>by
  have hne:b≠k:=fun e2=>by subst e2;rw [hn] at e;cases e
  exact RT.get_del_other b k t hne
 have hx:=rF (mc hP hs2 hE o)
 have hal:execD P o.op T (.mk (RT.del b t) b)=.val (vf b) (.mk ((RT.del b t).set ob b) (incr b)):=by
  rw [hmk]
  show Heap.allocT (RT.del b t) b ob (fun b h=>Res.val (vf b) h)=_
  unfold Heap.allocT
  rw [RT.get_del_same]
 rw [hal] at hx
 obtain⟨ρ',w',hsub,hk,hs3,hc⟩:=hx
 refine⟨ρ',w',hsub,?_,?_,hc⟩
 ·intro k hkb hnk ⟨x,hx⟩
  exact (hk k x ((RT.get_del_other b k t (Ne.symm hkb)).trans hx) hnk).1
 ·refine hs3.ext fun k L e=>?_
  by_cases hkb:b=k
  ·subst hkb
   exact hb.trans (RT.get_set_same ob b _).symm
  ·show t.get k=((RT.del b t).set ob b).get k
   rw [RT.get_set_other ob b k _ hkb,RT.get_del_other b k t hkb]
theorem rZ{op:Op}(hm:bj op=true){T:Slots}{v:AV}(he:execD P op T h=.val v h):False:=by
 rcases yI (P:=P) hm T with ⟨ob,vf,hmk⟩ | hb
 ·rw [hmk h] at he
  obtain⟨t,n⟩:=h
  have he:Heap.allocT t n ob (fun b h=>Res.val (vf b) h)=.val v (.mk t n):=he
  unfold Heap.allocT at he
  cases hg:t.get n with
  | some x=>rw [hg] at he;cases he
  | none=>
   rw [hg] at he
   have he:Res.val (vf n) (.mk (t.set ob n) (incr n))=.val v (.mk t n):=he
   injection he with _ he
   injection he with he _
   have:=RT.get_set_same ob n t
   rw [he,hg] at this
   cases this
 ·obtain⟨m,hb⟩:=hb h
  rw [hb] at he;cases he
structure Resv (ρ:Rho) (h:Heap) (R:List (Nat × Key × AObj)):Prop where
 nodup:(R.map (·.2.1)).Nodup
 none_:∀ x ∈ R,ρ x.2.1=none
 obj:∀ x ∈ R,h.get x.2.1=some x.2.2
theorem Resv.nil(ρ:Rho)(h:Heap):Resv ρ h []:=⟨by simp,by simp,by simp⟩
theorem Resv.kept{ρ':Rho}{R:List (Nat × Key × AObj)}(hr:Resv ρ h R)(hk:Kept ρ h ρ' h'):Resv ρ' h' R:=
 ⟨hr.nodup,fun x hx=>(hk _ _ (hr.obj x hx) (hr.none_ x hx)).1,fun x hx=>(hk _ _ (hr.obj x hx) (hr.none_ x hx)).2⟩
theorem Resv.right{R S:List (Nat × Key × AObj)}(hr:Resv ρ h (R++S)):Resv ρ h S:=
 ⟨by have:=hr.nodup;rw [List.map_append] at this;exact (List.nodup_append.1 this).2.1,fun x hx=>hr.none_ x (List.mem_append_right _ hx),fun x hx=>hr.obj x (List.mem_append_right _ hx)⟩
theorem Resv.cons{R:List (Nat × Key × AObj)}(hr:Resv ρ h R){i:Nat}{b:Key}{ob:AObj}(hb:h.get b=none)(hn:ρ b=none)(hg:h'.get b=some ob)(ho:∀ k,k≠b→h'.get k=h.get k):Resv ρ h' ((i,b,ob)::R):=by
 have hne:∀ x ∈ R,x.2.1≠b:=fun x hx e=>by have:=hr.obj x hx;rw [e,hb] at this;cases this
 refine⟨?_,?_,?_⟩
 ·rw [List.map_cons,List.nodup_cons]
  refine⟨fun hm=>?_,hr.nodup⟩
  obtain⟨x,hx,e⟩:=List.mem_map.1 hm
  exact hne x hx e
 ·intro x hx
  cases hx with
  | head=>exact hn
  | tail _ hx=>exact hr.none_ x hx
 ·intro x hx
  cases hx with
  | head=>exact hg
  | tail _ hx=>rw [ho _ (hne x hx)];exact hr.obj x hx
theorem Resv.uniq{R:List (Nat × Key × AObj)}(hr:Resv ρ h R):∀ x ∈ R,∀ y ∈ R,x.2.1=y.2.1→x=y:=by
 have:=hr.nodup
 clear hr
 induction R with
 | nil=>intro x hx;cases hx
 | cons a R ih=>
  rw [List.map_cons,List.nodup_cons] at this
  intro x hx y hy e
  cases hx with
  | head=>
   cases hy with
   | head=>rfl
   | tail _ hy=>exact absurd (List.mem_map.2 ⟨y,hy,e.symm⟩) this.1
  | tail _ hx=>
   cases hy with
   | head=>exact absurd (List.mem_map.2 ⟨x,hx,e⟩) this.1
   | tail _ hy=>exact ih this.2 x hx y hy e
def without(b:Key)(R:List (Nat × Key × AObj)):List (Nat × Key × AObj):=R.filter (fun x=>decide (x.2.1≠b))
theorem iP{b:Key}{R:List (Nat × Key × AObj)}{x:Nat × Key × AObj}:x ∈ without b R ↔ x ∈ R∧x.2.1≠b:=by simp [without]
theorem Resv.drop{ρ':Rho}{R S:List (Nat × Key × AObj)}(hr:Resv ρ h (R++S)){y:Nat × Key × AObj}(hy:y ∈ R)(hk:∀ k,k≠y.2.1→ρ k=none→(∃ x,h.get k=some x)→ρ' k=none):Resv ρ' h (without y.2.1 R++S):=by
 have hmem:∀ x ∈ without y.2.1 R++S,x ∈ R++S∧x.2.1≠y.2.1:=by
  intro x hx
  rcases List.mem_append.1 hx with hx | hx
  ·exact⟨List.mem_append_left _ (iP.1 hx).1,(iP.1 hx).2⟩
  ·refine⟨List.mem_append_right _ hx,fun e=>?_⟩
   have hnd:=hr.nodup
   rw [List.map_append,List.nodup_append] at hnd
   exact hnd.2.2 _ (List.mem_map.2 ⟨y,hy,rfl⟩) _ (List.mem_map.2 ⟨x,hx,rfl⟩) e.symm
 refine⟨?_,fun x hx=>hk _ (hmem x hx).2 (hr.none_ x (hmem x hx).1) ⟨_,hr.obj x (hmem x hx).1⟩,fun x hx=>hr.obj x (hmem x hx).1⟩
 refine List.Sublist.nodup ?_ hr.nodup
 exact (List.Sublist.append (List.filter_sublist) (List.Sublist.refl S)).map _
end
end Go.VM
end
namespace Go.VM
def Glob(P:Program)(ρ:Rho):Prop:=∀ g,g < P.globals.size→∃ L,ρ (j6 g)=some L∧L.B=g∧L.base=0
theorem Glob.mono{P:Program}{ρ ρ':Rho}(s:Sub ρ ρ')(h:Glob P ρ):Glob P ρ':=fun g hg=>let ⟨L,a,b⟩:=h g hg;⟨L,s _ _ a,b⟩
theorem gi{P:Program}{ρ:Rho}{T:Slots}{fr:Frame}(hg:Glob P ρ)(hT:TRel ρ T fr.tmps):ma P ρ T fr.eval:=by
 intro x
 refine I1 hT fr.eval (fun i=>rfl) (fun v=>rfl) (fun f=>rfl) (fun g hlt=>?_) x
 obtain⟨L,h1,h2,h3⟩:=hg g hlt
 exact⟨L,h1,by show Value.pointer (some ⟨g,0,none⟩)=_;rw [h2,h3]⟩
theorem ot(all:List Oper)(i:Nat):operAt all i=all[i]?:=by simp [operAt,uB,bf,List.head?_drop]
def aZ(all:List Oper)(i:Nat):Option Nat:=(all[i]?).bind (·.dst)
theorem yF(all:List Oper)(i:Nat):gp all i=aZ all i:=by rw [gp,ot];rfl
theorem iO{ρ:Rho}{all:List Oper}{T:Slots}{t:Array Value}(hT:TRel ρ T t){o:Oper}{b:Bool}(hg:guardA o.guard all T=some b):Region.wanted o (yielded ⟨all⟩ t)=b:=by
 unfold Region.wanted
 cases hgu:o.guard with
 | none=>rw [hgu] at hg;have:true=b:=by simpa [guardA] using hg
         subst this;rfl
 | some g=>
  obtain⟨j,want⟩:=g
  rw [hgu] at hg
  dsimp only
  cases hd:gp all j with
  | none=>simp [guardA,hd] at hg
  | some d=>
   have hg':lF (T.get d) want=some b:=by simpa [guardA,hd] using hg
   have hd':((⟨all⟩:Array Oper)[j]?).bind (·.dst)=some d:=by rw [yF] at hd;simpa [aZ] using hd
   have hrel:=hT.at_ d
   unfold lF at hg'
   generalize hv:T.get d=v at hg' hrel
   generalize hV:t.getD d Go.undef=V at hrel
   unfold yielded
   rw [hd']
   dsimp only [Option.bind_some]
   cases hrel with
   | bool x=>
    have hb:(x == want)=b:=by simpa using hg'
    have:t[d]?=some (.bool x):=by
     rw [Array.getD_eq_getD_getElem?] at hV
     cases ht:t[d]? with
     | none=>rw [ht] at hV;simp [Go.undef] at hV
     | some y=>rw [ht] at hV;simp at hV;rw [hV]
    rw [this]
    dsimp only
    rw [←hb]
    cases x<;>cases want<;>rfl
   | undef=>
    have hb:false=b:=by simpa using hg'
    subst hb
    rw [Array.getD_eq_getD_getElem?] at hV
    cases ht:t[d]? with
    | none=>rfl
    | some y=>rw [ht] at hV;simp at hV;rw [hV];rfl
   | _=>simp at hg'
section
variable (P:Program)
def Chk(all:List Oper)(T:Slots)(h:Heap)(i:Nat):Prop:=∃ o,all[i]?=some o∧
 ((guardA o.guard all (maskT (edgesOf o) all T)=some true∧∃ v,execD P o.op (maskT (edgesOf o) all T) h=.val v h∧∀ d,o.dst=some d→T.get d=v)∨
  (guardA o.guard all (maskT (edgesOf o) all T)=some false∧∀ d,o.dst=some d→T.get d=.undef))
def Made(R:List (Nat × Key × AObj))(all:List Oper)(T:Slots)(i:Nat):Prop:=∃ o ob vf b,all[i]?=some o∧bj o.op=true∧guardA o.guard all (maskT (edgesOf o) all T)=some true∧
 yG P o.op (maskT (edgesOf o) all T) ob vf∧(i,b,ob) ∈ R∧∀ d,o.dst=some d→T.get d=vf b
structure DInv (ρ:Rho) (h:Heap) (R:List (Nat × Key × AObj)) (all:List Oper) (plan:List PStep) (A C ord:List Nat) (T:Slots) (t:Array Value):Prop where
 fwd:bQ 0 all=true
 inj:∀ i j d,aZ all i=some d→aZ all j=some d→i=j
 ok:cz P all (dL all []) A plan=true
 topo:Topo all C ord
 closed:oo all C
 closedA:oo all A
 sub:∀ i ∈ C,i ∈ A
 quiet:∀ i ∈ A,i ∉ C→cg P all i=false
 lt:∀ i ∈ A,i < all.length
 dlt:∀ i ∈ A,∀ d,aZ all i=some d→d < T.n
 size:t.size=T.n
 slots:∀ s,(∀ i ∈ A,i ∉ C→aZ all i≠some s)→Rel ρ (T.get s) (t.getD s Go.undef)
 chk:∀ i ∈ A,i ∉ C→i ∈ cy plan∨Chk P all T h i∨Made P R all T i
end
section
variable {P:Program} {w0:Base} {ρ:Rho} {h:Heap} {w:World} {all:List Oper} {plan:List PStep} {A C ord:List Nat} {T:Slots} {t:Array Value} {R:List (Nat × Key × AObj)}
theorem DInv.mono{ρ':Rho}(s:Sub ρ ρ')(hD:DInv P ρ h R all plan A C ord T t):DInv P ρ' h R all plan A C ord T t:=
 ⟨hD.fwd,hD.inj,hD.ok,hD.topo,hD.closed,hD.closedA,hD.sub,hD.quiet,hD.lt,hD.dlt,hD.size,fun x hx=>(hD.slots x hx).mono s,hD.chk⟩
theorem ou{i:Nat}:∀ {a b:List Nat},elemN i (cat a b)=true ↔ elemN i a=true∨elemN i b=true
 | [],b=>by simp [cat,elemN]
 | x::a,b=>by
  have ih:=ou (i:=i) (a:=a) (b:=b)
  show cond (Nat.beq i x) true (elemN i (cat a b))=true ↔ cond (Nat.beq i x) true (elemN i a)=true∨_
  cases Nat.beq i x<;>simp [ih]
theorem pD{i:Nat}(h:elemN i (closers all)=true):tN all i=true:=by
 unfold closers at h
 split at h
 ·cases h
 ·rename_i n _
  cases hc:tN all n with
  | false=>rw [hc] at h;cases h
  | true=>
   rw [hc] at h
   have h:cond (Nat.beq i n) true false=true:=h
   cases hb:Nat.beq i n with
   | true=>rw [Nat.eq_of_beq_eq_true hb];exact hc
   | false=>rw [hb] at h;cases h
theorem mB{i:Nat}(h:elemN i (closers all)=true):cg P all i=true:=by
 have h:=pD h
 unfold cg
 cases ho:all[i]? with
 | none=>rfl
 | some o=>
  dsimp only
  rw [h];simp
theorem dH{i:Nat}(h:cg P all i=false):elemN i (closers all)=false:=by
 cases hb:elemN i (closers all) with
 | false=>rfl
 | true=>rw [mB hb] at h;cases h
theorem rX{i:Nat}{o:Oper}(ho:all[i]?=some o)(h:cg P all i=false):lJ P o.op=false:=by
 unfold cg at h
 rw [ho] at h
 dsimp only at h
 rw [Bool.or_eq_false_iff] at h
 exact h.1
theorem qh{i:Nat}{es l:List Nat}(h1:elemN i es=false)(h2:elemN i l=false):elemN i (cat es l)=false:=by
 cases hb:elemN i (cat es l) with
 | false=>rfl
 | true=>rcases ou.1 hb with h | h
         ·rw [h1] at h;cases h
         ·rw [h2] at h;cases h
theorem GN(es:List Nat)(all:List Oper)(T:Slots):(maskT es all T).n=T.n:=by cases T;rfl
theorem DInv.masked(hD:DInv P ρ h R all plan A C ord T t){o:Oper}(he:∀ j ∈ edgesOf o,j ∈ C):TRel ρ (maskT (edgesOf o) all T) t:=by
 refine⟨by rw [GN];exact hD.size,fun s=>?_⟩
 obtain⟨n,r⟩:=T
 show Rel ρ ((Slots.mk n (maskGo (cat (edgesOf o) (closers all)) 0 all r)).get s) _
 by_cases hx:∃ i p,all[i]?=some p∧p.dst=some s∧elemN i (cat (edgesOf o) (closers all))=false
 ·obtain⟨i,p,hp,hd,hne⟩:=hx
  rw [fq (cat (edgesOf o) (closers all)) all 0 n s i r p hp hd (by rw [Nat.zero_add];exact hne)]
  exact .junk _
 ·have hall:∀ i p,all[i]?=some p→p.dst=some s→elemN i (cat (edgesOf o) (closers all))=true:=by
   intro i p hp hd
   cases hb:elemN i (cat (edgesOf o) (closers all)) with
   | true=>rfl
   | false=>exact absurd ⟨i,p,hp,hd,hb⟩ hx
  rw [c5 (cat (edgesOf o) (closers all)) all 0 n s r (fun i p hp hd=>by rw [Nat.zero_add];exact hall i p hp hd)]
  refine hD.slots s fun i hi hni hds=>?_
  unfold aZ at hds
  cases hp:all[i]? with
  | none=>simp [hp] at hds
  | some p=>
   rw [hp] at hds
   rcases ou.1 (hall i p hp hds) with h1 | h1
   ·exact hni (he i (aO.1 h1))
   ·have:=hD.quiet i hi hni
    rw [mB h1] at this;cases this
end
end Go.VM
namespace Go.VM
def ur(t:Array Value)(d:Option Nat)(V:Value):Array Value:=match d with | some d=>t.setIfInBounds d V | none=>t
theorem gj{fr:Frame}{ops:Array Oper}{i:Nat}{rest:List Nat}{k:List Item}(ht:fr.todo=.inRegion ops (i::rest)::k)(V:Value):
  fr.finish V={ fr with tmps:=ur fr.tmps ((ops[i]?).bind (·.dst)) V,todo:=.inRegion ops rest::k }:=by
 unfold Frame.finish
 rw [ht]
 dsimp only
 cases (ops[i]?).bind (·.dst)<;>rfl
theorem ow(t:Array Value)(d:Option Nat)(V:Value):(ur t d V).size=t.size:=by cases d<;>simp [ur]
theorem rY(t:Array Value)(d:Option Nat)(V:Value)(s:Nat)(hd:∀ x,d=some x→x < t.size):(ur t d V).getD s Go.undef=if d=some s then V else t.getD s Go.undef:=by
 cases d with
 | none=>simp [ur]
 | some d=>
  unfold ur
  rw [eE t d s V (hd d rfl)]
  by_cases h:d=s<;>simp [h]
section
variable {P:Program} {w0:Base} {ρ:Rho} {h:Heap} {w:World} {all:List Oper} {plan:List PStep} {A C ord:List Nat} {T:Slots} {fr:Frame} {CS:List Frame} {k:List Item} {R R' S:List (Nat × Key × AObj)}
theorem DInv.caught{t:Array Value}{j:Nat}{V:Value}(hD:DInv P ρ h R all plan A C (j::ord) T t)(hj:j ∈ A)(hV:∀ d,aZ all j=some d→Rel ρ (T.get d) V)(hR:∀ i,i≠j→Made P R all T i→Made P R' all T i):DInv P ρ h R' all plan A (j::C) ord T (ur t (aZ all j) V):=by
 cases hD.topo with
 | cons ho hi he hr=>
  rename_i o
  have hdl:∀ x,aZ all j=some x→x < t.size:=fun x hx=>by rw [hD.size];exact hD.dlt j hj x hx
  refine⟨hD.fwd,hD.inj,hD.ok,hr,?_,hD.closedA,?_,?_,hD.lt,hD.dlt,by rw [ow];exact hD.size,?_,?_⟩
  ·intro i hi' o' ho' x hx
   cases hi' with
   | head=>rw [ho] at ho';cases ho';exact List.mem_cons_of_mem _ (he x hx)
   | tail _ hi'=>exact List.mem_cons_of_mem _ (hD.closed i hi' o' ho' x hx)
  ·intro i hi'
   cases hi' with
   | head=>exact hj
   | tail _ hi'=>exact hD.sub i hi'
  ·intro i hA hC
   exact hD.quiet i hA (fun h=>hC (List.mem_cons_of_mem _ h))
  ·intro s hs
   rw [rY _ _ _ _ hdl]
   by_cases hd:aZ all j=some s
   ·rw [if_pos hd];exact hV s hd
   ·rw [if_neg hd]
    refine hD.slots s fun i hA hC=>?_
    by_cases hij:i=j
    ·subst hij;exact hd
    ·exact hs i hA (fun h=>by cases h with | head=>exact hij rfl | tail _ h=>exact hC h)
  ·intro i hA hC
   rcases hD.chk i hA (fun h=>hC (List.mem_cons_of_mem _ h)) with h1 | h1 | h1
   ·exact .inl h1
   ·exact .inr (.inl h1)
   ·exact .inr (.inr (hR i (fun e=>hC (by rw [e];exact List.mem_cons_self)) h1))
theorem EL(hP:TypesOk P)(hg:Glob P ρ)(hs:Sim w0 ρ h w)(hres:Resv ρ h (R++S))(hm:fr.mode=.run){j:Nat}(ht:fr.todo=.inRegion ⟨all⟩ (j::ord)::k)(hD:DInv P ρ h R all plan A C (j::ord) T fr.tmps)
  (hj:j ∈ A) (hc:Chk P all T h j∨Made P R all T j):∃ ρ' w' t' R',Sub ρ ρ'∧Resv ρ' h (R'++S)∧Sim w0 ρ' h w'∧step P (lone fr CS w)=.next (lone { fr with tmps:=t',todo:=.inRegion ⟨all⟩ ord::k } CS w')∧DInv P ρ' h R' all plan A (j::C) ord T t':=by
 obtain⟨o,ho⟩:∃ o,all[j]?=some o:=by
  rcases hc with ⟨o,ho,_⟩ | ⟨o,_,_,_,ho,_⟩<;>exact⟨o,ho⟩
 have ho':(⟨all⟩:Array Oper)[j]?=some o:=by simpa using ho
 have he:∀ x ∈ edgesOf o,x ∈ C:=by
  cases hD.topo with
  | cons ho2 hi he hr=>rw [ho] at ho2;cases ho2;exact he
 have hjC:j ∉ C:=by cases hD.topo with | cons _ hi _ _=>exact hi
 have hnd:∀ c,o.op≠.defer c:=by
  intro c hc
  have:=hD.quiet j hj hjC
  simp [cg,ho,hc,lJ] at this
 have hTm:=hD.masked he
 have hfin:∀ V,fr.finish V={ fr with tmps:=ur fr.tmps (aZ all j) V,todo:=.inRegion ⟨all⟩ ord::k }:=by
  intro V;rw [gj ht,ho'];simp [aZ,ho]
 have hdst:∀ d,aZ all j=some d→o.dst=some d:=fun d hd=>by simpa [aZ,ho] using hd
 rcases hc with ⟨o2,ho2,hcase⟩ | ⟨o2,ob,vf,b,ho2,hmo,hgu,hmk,hmem,hv⟩
 ·rw [ho] at ho2;cases ho2
  rcases hcase with ⟨hgu,v,hex,hv⟩ | ⟨hgu,hv⟩
  ·have hw:=iO hTm hgu
   have hn:=rF (mc (w:=w) hP hs (gi (fr:=fr) hg hTm) o)
   rw [hex] at hn
   obtain⟨ρ',w',hsub,hkept,hs',hcases⟩:=hn
   rcases hcases with ⟨V,hrel,hrun⟩ | ⟨hve,hrun⟩
   ·refine⟨ρ',w',_,R,hsub,hres.kept hkept,hs',?_,(hD.mono hsub).caught hj (fun d hd=>by rw [hv d (hdst d hd)];exact hrel) (fun _ _ h=>h)⟩
    rw [iN hm (.inr hnd) ht ho' hw hrun,hfin]
   ·refine⟨ρ',w',_,R,hsub,hres.kept hkept,hs',?_,(hD.mono hsub).caught (V:=Go.undef) hj (fun d hd=>by rw [hv d (hdst d hd),hve];exact .undef) (fun _ _ h=>h)⟩
    rw [wo hm (.inr hnd) ht ho' hw hrun,hfin]
  ·have hw:=iO hTm hgu
   refine⟨ρ,w,_,R,Sub.refl _,hres,hs,?_,hD.caught (V:=Go.undef) hj (fun d hd=>by rw [hv d (hdst d hd)];exact .undef) (fun _ _ h=>h)⟩
   rw [lm hm ht ho' hw,hfin]
 ·rw [ho] at ho2;cases ho2
  have hw:=iO hTm hgu
  have hmem':(j,b,ob) ∈ R++S:=List.mem_append_left _ hmem
  obtain⟨ρ',w',hsub,hk,hs',hcases⟩:=GP (w:=w) hP hs (gi (fr:=fr) hg hTm) hmk (hres.obj _ hmem') (hres.none_ _ hmem')
  have hR:∀ i,i≠j→Made P R all T i→Made P (without b R) all T i:=by
   rintro i hij ⟨o3,ob3,vf3,b3,h1,h2,h3,h4,h5,h6⟩
   refine⟨o3,ob3,vf3,b3,h1,h2,h3,h4,iP.2 ⟨h5,fun e=>?_⟩,h6⟩
   have:=hres.uniq _ (List.mem_append_left _ h5) _ hmem' e
   exact hij (congrArg Prod.fst this)
  have hres':=hres.drop hmem hk
  rcases hcases with ⟨V,hrel,hrun⟩ | ⟨hve,hrun⟩
  ·refine⟨ρ',w',_,without b R,hsub,hres',hs',?_,(hD.mono hsub).caught hj (fun d hd=>by rw [hv d (hdst d hd)];exact hrel) hR⟩
   rw [iN hm (.inr hnd) ht ho' hw hrun,hfin]
  ·refine⟨ρ',w',_,without b R,hsub,hres',hs',?_,(hD.mono hsub).caught (V:=Go.undef) hj (fun d hd=>by rw [hv d (hdst d hd),hve];exact .undef) hR⟩
   rw [wo hm (.inr hnd) ht ho' hw hrun,hfin]
end
end Go.VM
namespace Go.VM
section
variable {P:Program} {w0:Base} {h:Heap} {all:List Oper} {A:List Nat} {T:Slots} {fr:Frame} {CS:List Frame} {k:List Item} {S:List (Nat × Key × AObj)}
def fu(fr:Frame)(t:Array Value)(all:List Oper)(ord:List Nat)(k:List Item):Frame:={ fr with tmps:=t,todo:=.inRegion ⟨all⟩ ord::k }
theorem GO(hP:TypesOk P)(hm:fr.mode=.run){i:Nat}{rest:List PStep}{o:Oper}(ho:all[i]?=some o)(hact:cg P all i=true):∀ (ord:List Nat) (ρ:Rho) (w:World) (t:Array Value) (C:List Nat) (R:List (Nat × Key × AObj)),Glob P ρ→Sim w0 ρ h w→Resv ρ h (R++S)→
  DInv P ρ h R all (.op i::rest) A C ord T t→∃ ρ' w' t' C' ord' R',Sub ρ ρ'∧Resv ρ' h (R'++S)∧Sim w0 ρ' h w'∧Steps P (lone (fu fr t all ord k) CS w) (lone (fu fr t' all (i::ord') k) CS w')∧DInv P ρ' h R' all (.op i::rest) A C' (i::ord') T t':=by
 intro ord
 induction ord with
 | nil=>
  intro ρ w t C R hg hs hres hD
  exfalso
  have hok:=hD.ok
  unfold cz at hok
  rw [ho] at hok
  have hiA:i ∉ A:=by
   intro hm
   have:elemN i A=true:=aO.2 hm
   simp [this] at hok
  cases hD.topo with
  | nil hall=>exact hiA (hD.sub i (hall i (List.getElem?_eq_some_iff.1 ho).1))
 | cons j ord ih=>
  intro ρ w t C R hg hs hres hD
  by_cases hji:j=i
  ·subst hji
   exact⟨ρ,w,t,C,ord,R,Sub.refl _,hres,hs,.refl _ _,hD⟩
  ·have hok:=hD.ok
   unfold cz at hok
   rw [ho] at hok
   dsimp only at hok
   have hiA:i ∉ A:=by
    intro hm
    have:elemN i A=true:=aO.2 hm
    simp [this] at hok
   have hnA:elemN i A=false:=by
    cases hb:elemN i A with
    | false=>rfl
    | true=>exact absurd (aO.1 hb) hiA
   have hhang:cu (dL all []) i (dv (lL all.length) A)=true:=by
    cases h1:jo (edgesOf o) A with
    | false=>simp [hnA,h1] at hok
    | true=>
     cases h2:cu (dL all []) i (dv (lL all.length) A) with
     | true=>rfl
     | false=>simp [hnA,h1,h2,hact] at hok
   have hj:j ∈ A:=by
    apply Classical.byContradiction
    intro hjA
    cases hD.topo with
    | cons hoj hjC hej hrj=>
     have hjl:j < all.length:=(List.getElem?_eq_some_iff.1 hoj).1
     rcases kM hhang j (ll.2 ⟨mA.2 hjl,hjA⟩) with h1 | h1
     ·exact hji h1
     ·exact hiA (hD.sub i (EB hD.fwd hD.closed j j (Nat.le_refl _) _ hoj hej i h1))
   have hjC:j ∉ C:=by cases hD.topo with | cons _ hi _ _=>exact hi
   have hc:Chk P all T h j∨Made P R all T j:=by
    rcases hD.chk j hj hjC with h1 | h1
    ·simp [cy] at h1
    ·exact h1
   obtain⟨ρ1,w1,t1,R1,s1,k1,sim1,hstep,hD1⟩:=EL (CS:=CS) (fr:=fu fr t all (j::ord) k) (k:=k) hP hg hs hres hm rfl hD hj hc
   obtain⟨ρ2,w2,t2,C2,ord2,R2,s2,k2,sim2,hsteps,hD2⟩:=ih ρ1 w1 t1 (j::C) R1 (hg.mono s1) sim1 k1 hD1
   exact⟨ρ2,w2,t2,C2,ord2,R2,s1.trans s2,k2,sim2,.head hstep hsteps,hD2⟩
theorem EM(hP:TypesOk P)(hm:fr.mode=.run):∀ (ord:List Nat) (ρ:Rho) (w:World) (t:Array Value) (C:List Nat) (R:List (Nat × Key × AObj)),Glob P ρ→Sim w0 ρ h w→Resv ρ h (R++S)→
  DInv P ρ h R all [] A C ord T t→∃ ρ' w' t',Sub ρ ρ'∧Resv ρ' h S∧Sim w0 ρ' h w'∧Steps P (lone (fu fr t all ord k) CS w) (lone { fr with tmps:=t',todo:=k } CS w')∧TRel ρ' T t':=by
 intro ord
 induction ord with
 | nil=>
  intro ρ w t C R hg hs hres hD
  refine⟨ρ,w,t,Sub.refl _,hres.right,hs,.one (kP (fr:=fu fr t all [] k) hm rfl),⟨hD.size,fun s=>hD.slots s fun i hA hC=>?_⟩⟩
  cases hD.topo with
  | nil hall=>exact absurd (hall i (hD.lt i hA)) hC
 | cons j ord ih=>
  intro ρ w t C R hg hs hres hD
  have hj:j ∈ A:=by
   cases hD.topo with
   | cons hoj hjC hej hrj=>
    have hjl:j < all.length:=(List.getElem?_eq_some_iff.1 hoj).1
    have hok:=hD.ok
    unfold cz at hok
    exact jJ.1 hok j (mA.2 hjl)
  have hjC:j ∉ C:=by cases hD.topo with | cons _ hi _ _=>exact hi
  have hc:Chk P all T h j∨Made P R all T j:=by
   rcases hD.chk j hj hjC with h1 | h1
   ·simp [cy] at h1
   ·exact h1
  obtain⟨ρ1,w1,t1,R1,s1,k1,sim1,hstep,hD1⟩:=EL (CS:=CS) (fr:=fu fr t all (j::ord) k) (k:=k) hP hg hs hres hm rfl hD hj hc
  obtain⟨ρ2,w2,t2,s2,k2,sim2,hsteps,hD2⟩:=ih ρ1 w1 t1 (j::C) R1 (hg.mono s1) sim1 k1 hD1
  exact⟨ρ2,w2,t2,s1.trans s2,k2,sim2,.head hstep hsteps,hD2⟩
end
end Go.VM
noncomputable section
namespace Go.VM
def putA(T:Slots)(d:Option Nat)(v:AV):Slots:=match d,T with
 | some d,.mk n r=>.mk n (r.set v (keyOf d))
 | none,T=>T
theorem ld(T:Slots)(d:Option Nat)(v:AV):(putA T d v).n=T.n:=by cases d<;>cases T<;>rfl
theorem dg(T:Slots)(d:Option Nat)(v:AV)(s:Nat):(putA T d v).get s=if d=some s then v else T.get s:=by
 cases d with
 | none=>simp [putA]
 | some d=>
  obtain⟨n,r⟩:=T
  show (Slots.mk n (r.set v (keyOf d))).get s=_
  by_cases h:d=s
  ·subst h;rw [Slots.get_set_same];simp
  ·rw [Slots.get_set_other _ _ _ _ _ h];simp [h]
theorem Ah(T:Slots)(d:Option Nat)(v:AV)(k:Slots→St):((∀ x,d=some x→x < T.n)∧putK T d v k=k (putA T d v))∨(∃ m,putK T d v k=.bad m):=by
 cases d with
 | none=>exact .inl ⟨fun x h=>(by cases h),rfl⟩
 | some d=>
  obtain⟨n,r⟩:=T
  show (_∧cond (Nat.blt d n) (k (.mk n (r.set v (keyOf d)))) (.bad "slot")=_)∨(∃ m,cond (Nat.blt d n) (k (.mk n (r.set v (keyOf d)))) (.bad "slot")=.bad m)
  cases hb:Nat.blt d n with
  | true=>exact .inl ⟨fun x h=>by cases h;exact blt_lt hb,rfl⟩
  | false=>exact .inr ⟨_,rfl⟩
theorem TRel.putA{ρ:Rho}{T:Slots}{t:Array Value}(hT:TRel ρ T t){d:Option Nat}(hd:∀ x,d=some x→x < T.n){v:AV}{V:Value}(hv:Rel ρ v V):TRel ρ (putA T d v) (ur t d V):=by
 refine⟨by rw [ow,ld];exact hT.n,fun s=>?_⟩
 rw [dg,rY _ _ _ _ (fun x hx=>by rw [hT.n];exact hd x hx)]
 split
 ·exact hv
 ·exact hT.at_ s
section
variable {all:List Oper}
theorem mo{es:List Nat}{i:Nat}{o:Oper}(ho:all[i]?=some o)(hne:elemN i (cat es (closers all))=false)(T:Slots)(v:AV)(s:Nat):(maskT es all (putA T o.dst v)).get s=(maskT es all T).get s:=by
 cases hd:o.dst with
 | none=>rfl
 | some d=>
  obtain⟨n,r⟩:=T
  show (Slots.mk n (maskGo (cat es (closers all)) 0 all (r.set v (keyOf d)))).get s=(Slots.mk n (maskGo (cat es (closers all)) 0 all r)).get s
  generalize cat es (closers all)=es at hne ⊢
  by_cases hx:∃ j p,all[j]?=some p∧p.dst=some s∧elemN j es=false
  ·obtain⟨j,p,hp,hd,hne⟩:=hx
   rw [fq es all 0 n s j _ p hp hd (by rw [Nat.zero_add];exact hne),fq es all 0 n s j _ p hp hd (by rw [Nat.zero_add];exact hne)]
  ·have hall:∀ j p,all[j]?=some p→p.dst=some s→elemN (0+j) es=true:=by
    intro j p hp hd
    rw [Nat.zero_add]
    cases hb:elemN j es with
    | true=>rfl
    | false=>exact absurd ⟨j,p,hp,hd,hb⟩ hx
   rw [c5 es all 0 n s _ hall,c5 es all 0 n s _ hall]
   have hds:d≠s:=by
    intro e;subst e
    have:=hall i o ho hd
    rw [Nat.zero_add,hne] at this;cases this
   rw [Slots.get_set_other _ _ _ _ _ hds]
theorem gW{g:Option (Nat × Bool)}{T T':Slots}(h:∀ s,T.get s=T'.get s):guardA g all T=guardA g all T':=by
 cases g with
 | none=>rfl
 | some g=>
  unfold guardA
  dsimp only
  cases gp all g.1 with
  | none=>rfl
  | some d=>dsimp only;rw [h d]
end
section
variable {P:Program} {ρ:Rho} {h:Heap} {all:List Oper} {rest:List PStep} {A C ord:List Nat} {T:Slots} {t:Array Value} {R:List (Nat × Key × AObj)}
theorem jD{i:Nat}(hok:cz P all (dL all []) A (.op i::rest)=true):∃ o,all[i]?=some o∧i ∉ A∧(∀ j ∈ edgesOf o,j ∈ A)∧(cg P all i=true→cu (dL all []) i (dv (lL all.length) A)=true∧asked P all (eU (dL all []) i) (cy rest) A=true)∧cz P all (dL all []) (i::A) rest=true∧(cg P all i=false→bj o.op=true→asked P all [] (cy rest) A=true):=by
 unfold cz at hok
 cases ho:all[i]? with
 | none=>simp [ho] at hok
 | some o=>
  rw [ho] at hok
  dsimp only at hok
  cases h1:elemN i A with
  | true=>simp [h1] at hok
  | false=>
   cases h2:jo (edgesOf o) A with
   | false=>simp [h1,h2] at hok
   | true=>
    simp only [h1,h2,Bool.not_false,Bool.and_self,cond_true] at hok
    have hiA:i ∉ A:=(fun hm=>by rw [aO.2 hm] at h1;cases h1)
    refine⟨o,rfl,hiA,jJ.1 h2,?_,?_,?_⟩
    ·intro ha
     rw [ha] at hok
     simp only [cond_true] at hok
     cases h3:(cu (dL all []) i (dv (lL all.length) A) && asked P all (eU (dL all []) i) (cy rest) A) with
     | false=>rw [h3] at hok;cases hok
     | true=>exact Bool.and_eq_true _ _▸h3
    ·cases h3:(cond (cg P all i) (cu (dL all []) i (dv (lL all.length) A) && asked P all (eU (dL all []) i) (cy rest) A) (cond (bj o.op) (asked P all [] (cy rest) A) true)) with
     | false=>rw [h3] at hok;cases hok
     | true=>rw [h3] at hok;exact hok
    ·intro ha hmo
     rw [ha,hmo] at hok
     cases h3:asked P all [] (cy rest) A with
     | false=>rw [h3] at hok;cases hok
     | true=>rfl
theorem Chk.put{i j:Nat}{o:Oper}{v:AV}(ho:all[i]?=some o)(hc:Chk P all T h j)(hcl:elemN i (closers all)=false)(hne:∀ p,all[j]?=some p→i ∉ edgesOf p)(hd:∀ d,aZ all j=some d→o.dst≠some d):Chk P all (putA T o.dst v) h j:=by
 obtain⟨p,hp,hcase⟩:=hc
 have hni:elemN i (edgesOf p)=false:=by
  cases hb:elemN i (edgesOf p) with
  | false=>rfl
  | true=>exact absurd (aO.1 hb) (hne p hp)
 have hmask:=mo ho (qh hni hcl) T v
 have hg:=gW (all:=all) (g:=p.guard) hmask
 have hx:=jC (P:=P) (h:=h) hmask p.op
 refine⟨p,hp,?_⟩
 rw [hg,hx]
 have hget:∀ d,p.dst=some d→(putA T o.dst v).get d=T.get d:=fun d hpd=>by
  rw [dg,if_neg (hd d (by simp [aZ,hp,hpd]))]
 rcases hcase with ⟨a,x,b,c⟩ | ⟨a,c⟩
 ·exact .inl ⟨a,x,b,fun d hpd=>by rw [hget d hpd];exact c d hpd⟩
 ·exact .inr ⟨a,fun d hpd=>by rw [hget d hpd];exact c d hpd⟩
theorem Made.put{i j:Nat}{o:Oper}{v:AV}(ho:all[i]?=some o)(hc:Made P R all T j)(hcl:elemN i (closers all)=false)(hne:∀ p,all[j]?=some p→i ∉ edgesOf p)(hd:∀ d,aZ all j=some d→o.dst≠some d):Made P R all (putA T o.dst v) j:=by
 obtain⟨p,ob,vf,b,hp,hmo,hgu,hmk,hmem,hv⟩:=hc
 have hni:elemN i (edgesOf p)=false:=by
  cases hb:elemN i (edgesOf p) with
  | false=>rfl
  | true=>exact absurd (aO.1 hb) (hne p hp)
 have hmask:=mo ho (qh hni hcl) T v
 refine⟨p,ob,vf,b,hp,hmo,(gW (all:=all) (g:=p.guard) hmask).trans hgu,fun h=>(jC (P:=P) (h:=h) hmask p.op).trans (hmk h),hmem,fun d hpd=>?_⟩
 rw [dg,if_neg (hd d (by simp [aZ,hp,hpd]))]
 exact hv d hpd
theorem Made.more{j:Nat}{x:Nat × Key × AObj}(hc:Made P R all T j):Made P (x::R) all T j:=by
 obtain⟨p,ob,vf,b,hp,hmo,hgu,hmk,hmem,hv⟩:=hc
 exact⟨p,ob,vf,b,hp,hmo,hgu,hmk,List.mem_cons_of_mem _ hmem,hv⟩
theorem DInv.quietOp{i:Nat}{o:Oper}{v:AV}(hD:DInv P ρ h R all (.op i::rest) A C ord T t)(ho:all[i]?=some o)(hq:cg P all i=false)(hdl:∀ x,o.dst=some x→x < T.n)
  (hv:(guardA o.guard all (maskT (edgesOf o) all T)=some true∧execD P o.op (maskT (edgesOf o) all T) h=.val v h)∨(guardA o.guard all (maskT (edgesOf o) all T)=some false∧v=.undef)):
  DInv P ρ h R all rest (i::A) C ord (putA T o.dst v) t:=by
 obtain⟨o',ho',hiA,hea,_,hok',_⟩:=jD hD.ok
 rw [ho] at ho';cases ho'
 have hiC:i ∉ C:=fun hm=>hiA (hD.sub i hm)
 have hdo:aZ all i=o.dst:=by simp [aZ,ho]
 refine⟨hD.fwd,hD.inj,hok',hD.topo,hD.closed,?_,fun j hj=>List.mem_cons_of_mem _ (hD.sub j hj),?_,?_,?_,by rw [ld];exact hD.size,?_,?_⟩
 ·intro j hj p hp x hx
  cases hj with
  | head=>rw [ho] at hp;cases hp;exact List.mem_cons_of_mem _ (hea x hx)
  | tail _ hj=>exact List.mem_cons_of_mem _ (hD.closedA j hj p hp x hx)
 ·intro j hj hjC
  cases hj with
  | head=>exact hq
  | tail _ hj=>exact hD.quiet j hj hjC
 ·intro j hj
  cases hj with
  | head=>exact (List.getElem?_eq_some_iff.1 ho).1
  | tail _ hj=>exact hD.lt j hj
 ·intro j hj d hd
  rw [ld]
  cases hj with
  | head=>rw [hdo] at hd;exact hdl d hd
  | tail _ hj=>exact hD.dlt j hj d hd
 ·intro s hs
  have hne:=hs i (by simp) hiC
  rw [hdo] at hne
  rw [dg,if_neg hne]
  exact hD.slots s fun j hj hjC=>hs j (List.mem_cons_of_mem _ hj) hjC
 ·intro j hj hjC
  right
  cases hj with
  | head=>
   left
   have hni:elemN i (edgesOf o)=false:=by
    cases hb:elemN i (edgesOf o) with
    | false=>rfl
    | true=>have:=dW hD.fwd ho i (aO.1 hb);omega
   have hmask:=mo ho (qh hni (dH hq)) T v
   refine⟨o,ho,?_⟩
   rw [gW (all:=all) (g:=o.guard) hmask,jC (P:=P) (h:=h) hmask o.op]
   rcases hv with ⟨a,b⟩ | ⟨a,b⟩
   ·exact .inl ⟨a,v,b,fun d hd=>by rw [dg,if_pos hd]⟩
   ·exact .inr ⟨a,fun d hd=>by rw [dg,if_pos hd,b]⟩
  | tail _ hj=>
   have hdd:∀ d,aZ all j=some d→o.dst≠some d:=fun d hd e=>by
    have:=hD.inj i j d (by rw [hdo];exact e) hd
    subst this;exact hiA hj
   rcases hD.chk j hj hjC with h1 | h1 | h1
   ·simp [cy] at h1
   ·exact .inl (h1.put ho (dH hq) (fun p hp hm=>hiA (hD.closedA j hj p hp i hm)) hdd)
   ·exact .inr (h1.put ho (dH hq) (fun p hp hm=>hiA (hD.closedA j hj p hp i hm)) hdd)
theorem DInv.madeHere{h':Heap}{i:Nat}{o:Oper}{ob:AObj}{vf:Key→AV}{b:Key}(hD:DInv P ρ h R all (.op i::rest) A C ord T t)(ho:all[i]?=some o)(hq:cg P all i=false)(hmo:bj o.op=true)(hdl:∀ x,o.dst=some x→x < T.n)
  (hgu:guardA o.guard all (maskT (edgesOf o) all T)=some true) (hmk:yG P o.op (maskT (edgesOf o) all T) ob vf):DInv P ρ h' ((i,b,ob)::R) all rest (i::A) C ord (putA T o.dst (vf b)) t:=by
 obtain⟨o',ho',hiA,hea,_,hok',hask⟩:=jD hD.ok
 rw [ho] at ho';cases ho'
 have hask:=hask hq hmo
 have hiC:i ∉ C:=fun hm=>hiA (hD.sub i hm)
 have hdo:aZ all i=o.dst:=by simp [aZ,ho]
 refine⟨hD.fwd,hD.inj,hok',hD.topo,hD.closed,?_,fun j hj=>List.mem_cons_of_mem _ (hD.sub j hj),?_,?_,?_,by rw [ld];exact hD.size,?_,?_⟩
 ·intro j hj p hp x hx
  cases hj with
  | head=>rw [ho] at hp;cases hp;exact List.mem_cons_of_mem _ (hea x hx)
  | tail _ hj=>exact List.mem_cons_of_mem _ (hD.closedA j hj p hp x hx)
 ·intro j hj hjC
  cases hj with
  | head=>exact hq
  | tail _ hj=>exact hD.quiet j hj hjC
 ·intro j hj
  cases hj with
  | head=>exact (List.getElem?_eq_some_iff.1 ho).1
  | tail _ hj=>exact hD.lt j hj
 ·intro j hj d hd
  rw [ld]
  cases hj with
  | head=>rw [hdo] at hd;exact hdl d hd
  | tail _ hj=>exact hD.dlt j hj d hd
 ·intro s hs
  have hne:=hs i (by simp) hiC
  rw [hdo] at hne
  rw [dg,if_neg hne]
  exact hD.slots s fun j hj hjC=>hs j (List.mem_cons_of_mem _ hj) hjC
 ·intro j hj hjC
  cases hj with
  | head=>
   right;right
   have hni:elemN i (edgesOf o)=false:=by
    cases hb:elemN i (edgesOf o) with
    | false=>rfl
    | true=>have:=dW hD.fwd ho i (aO.1 hb);omega
   have hmask:=mo ho (qh hni (dH hq)) T (vf b)
   exact⟨o,ob,vf,b,ho,hmo,(gW (all:=all) (g:=o.guard) hmask).trans hgu,fun h=>(jC (P:=P) (h:=h) hmask o.op).trans (hmk h),List.mem_cons_self,fun d hd=>by rw [dg,if_pos hd]⟩
  | tail _ hj=>
   have hdd:∀ d,aZ all j=some d→o.dst≠some d:=fun d hd e=>by
    have:=hD.inj i j d (by rw [hdo];exact e) hd
    subst this;exact hiA hj
   rcases og hask j hj with h1 | h1 | h1 | h1
   ·rw [hD.quiet j hj hjC] at h1;cases h1
   ·rcases hD.chk j hj hjC with h2 | h2 | h2
    ·simp [cy] at h2
    ·obtain⟨p,hp,hcase⟩:=h2
     have hpm:bj p.op=true:=by simpa [eS,hp] using h1
     rcases hcase with ⟨_,x,hx,_⟩ | ⟨a,c⟩
     ·exact (rZ hpm hx).elim
     ·exact .inr (.inl (Chk.put (h:=h') ho ⟨p,hp,.inr ⟨a,c⟩⟩ (dH hq) (fun p hp hm=>hiA (hD.closedA j hj p hp i hm)) hdd))
    ·exact .inr (.inr ((h2.put ho (dH hq) (fun p hp hm=>hiA (hD.closedA j hj p hp i hm)) hdd).more))
   ·cases h1
   ·exact .inl h1
theorem rt{j:Nat}(hok:cz P all (dL all []) A (.chk j::rest)=true):eS all j=false∧cz P all (dL all []) A rest=true:=by
 unfold cz at hok
 cases hm:eS all j with
 | true=>rw [hm] at hok;cases hok
 | false=>rw [hm] at hok;exact⟨rfl,hok⟩
theorem DInv.asked{j:Nat}(hD:DInv P ρ h R all (.chk j::rest) A C ord T t)(hc:j ∈ A→j ∉ C→Chk P all T h j):DInv P ρ h R all rest A C ord T t:=by
 refine⟨hD.fwd,hD.inj,(rt hD.ok).2,hD.topo,hD.closed,hD.closedA,hD.sub,hD.quiet,hD.lt,hD.dlt,hD.size,hD.slots,fun i hA hC=>?_⟩
 rcases hD.chk i hA hC with h1 | h1
 ·cases h1 with
  | head=>exact .inr (.inl (hc hA hC))
  | tail _ h1=>exact .inl h1
 ·exact .inr h1
theorem Eq{j:Nat}{o:Oper}(ho:all[j]?=some o)(hq:lJ P o.op=false)(hnm:bj o.op=false)(hc:chkO P o all T h=true):Chk P all T h j:=by
 unfold chkO at hc
 cases hd:o.dst with
 | none=>simp [hd] at hc
 | some d=>
  rw [hd] at hc
  dsimp only at hc
  unfold Jj at hc
  refine⟨o,ho,?_⟩
  cases hg:guardA o.guard all (maskT (edgesOf o) all T) with
  | none=>simp [hg] at hc
  | some b=>
   rw [hg] at hc
   cases b with
   | true=>
    dsimp only at hc
    left
    refine⟨rfl,?_⟩
    rcases pv (P:=P) (h:=h) (T:=maskT (edgesOf o) all T) o.op hq hnm with ⟨v,hv⟩ | ⟨m,hv⟩
    ·rw [hv] at hc
     have:=mz 60 v (T.get d) hc
     exact⟨v,hv,fun d' hd'=>by rw [hd] at hd';cases hd';exact this.symm⟩
    ·rw [hv] at hc;cases hc
   | false=>
    dsimp only at hc
    right
    refine⟨rfl,fun d' hd'=>?_⟩
    rw [hd] at hd';cases hd'
    split at hc
    ·rename_i e;exact e
    ·cases hc
end
end Go.VM
end
namespace Go.VM
inductive IRel:AItem→Item→Prop where
 | code (c:Code):IRel (.code c) (.code c)
 | inBlock (id:Nat):IRel (.inBlock id) (.inBlock id)
 | inLoop (c:Code):IRel (.inLoop c) (.inLoop c)
 | inScope (c:Code):IRel (.inScope c) (.inScope c)
 | beginRound:IRel .beginRound .beginRound
inductive KRel:List AItem→List Item→Prop where
 | nil:KRel [] []
 | cons {a:AItem} {b:Item} {k:List AItem} {l:List Item} (h:IRel a b) (hr:KRel k l):KRel (a::k) (b::l)
section
variable (P:Program)
def Off(all:List Oper)(T:Slots)(i:Nat):Prop:=∃ o,all[i]?=some o∧guardA o.guard all (maskT (edgesOf o) all T)=some false∧∀ d,o.dst=some d→T.get d=.undef
structure DSus (ρ:Rho) (R:List (Nat × Key × AObj)) (all:List Oper) (i:Nat) (rest:List PStep) (A C ord:List Nat) (T:Slots) (t:Array Value):Prop where
 fwd:bQ 0 all=true
 inj:∀ i j d,aZ all i=some d→aZ all j=some d→i=j
 ok:cz P all (dL all []) (i::A) rest=true
 topo:Topo all (i::C) ord
 closed:oo all (i::C)
 closedA:oo all (i::A)
 sub:∀ j ∈ C,j ∈ A
 quiet:∀ j ∈ A,j ∉ C→cg P all j=false
 lt:∀ j ∈ i::A,j < all.length
 dlt:∀ j ∈ A,∀ d,aZ all j=some d→d < T.n
 new:i ∉ A
 size:t.size=T.n
 slots:∀ s,(∀ j ∈ A,j ∉ C→aZ all j≠some s)→Rel ρ (T.get s) (t.getD s Go.undef)
 pend:∀ j ∈ A,j ∉ C→j ∈ cy rest∨Made P R all T j∨Off all T j
 closedA0:oo all A
end
section
variable {P:Program} {ρ:Rho} {h:Heap} {all:List Oper} {rest:List PStep} {A C ord:List Nat} {T:Slots} {t:Array Value} {R:List (Nat × Key × AObj)}
theorem DInv.suspend{i:Nat}{o:Oper}(hD:DInv P ρ h R all (.op i::rest) A C (i::ord) T t)(ho:all[i]?=some o)(hact:cg P all i=true):DSus P ρ R all i rest A C ord T t:=by
 obtain⟨o',ho',hiA,hea,hacts,hok',_⟩:=jD hD.ok
 rw [ho] at ho';cases ho'
 obtain⟨_,hasked⟩:=hacts hact
 cases hD.topo with
 | cons ho2 hiC he hr=>
  rw [ho] at ho2;cases ho2
  refine⟨hD.fwd,hD.inj,hok',hr,?_,?_,hD.sub,hD.quiet,?_,hD.dlt,hiA,hD.size,hD.slots,?_,hD.closedA⟩
  ·intro j hj p hp x hx
   cases hj with
   | head=>rw [ho] at hp;cases hp;exact List.mem_cons_of_mem _ (he x hx)
   | tail _ hj=>exact List.mem_cons_of_mem _ (hD.closed j hj p hp x hx)
  ·intro j hj p hp x hx
   cases hj with
   | head=>rw [ho] at hp;cases hp;exact List.mem_cons_of_mem _ (hea x hx)
   | tail _ hj=>exact List.mem_cons_of_mem _ (hD.closedA j hj p hp x hx)
  ·intro j hj
   cases hj with
   | head=>exact (List.getElem?_eq_some_iff.1 ho).1
   | tail _ hj=>exact hD.lt j hj
  ·intro j hj hjC
   rcases og hasked j hj with h1 | h1 | h1 | h1
   ·rw [hD.quiet j hj hjC] at h1;cases h1
   ·rcases hD.chk j hj hjC with h2 | h2 | h2
    ·simp [cy] at h2
    ·obtain⟨p,hp,hcase⟩:=h2
     have hpm:bj p.op=true:=by simpa [eS,hp] using h1
     rcases hcase with ⟨_,x,hx,_⟩ | ⟨a,c⟩
     ·exact (rZ hpm hx).elim
     ·exact .inr (.inr ⟨p,hp,a,c⟩)
    ·exact .inr (.inl h2)
   ·exact absurd (EB hD.fwd hD.closed i i (Nat.le_refl _) o ho he j h1) hjC
   ·exact .inl h1
theorem DSus.mono{ρ':Rho}{i:Nat}(s:Sub ρ ρ')(hD:DSus P ρ R all i rest A C ord T t):DSus P ρ' R all i rest A C ord T t:=
 ⟨hD.fwd,hD.inj,hD.ok,hD.topo,hD.closed,hD.closedA,hD.sub,hD.quiet,hD.lt,hD.dlt,hD.new,hD.size,fun x hx=>(hD.slots x hx).mono s,hD.pend,hD.closedA0⟩
theorem DSus.resume{i:Nat}{v:AV}{V:Value}(hD:DSus P ρ R all i rest A C ord T t)(hdl:∀ x,aZ all i=some x→x < T.n)(hv:Rel ρ v V):DInv P ρ h R all rest (i::A) (i::C) ord (putA T (aZ all i) v) (ur t (aZ all i) V):=by
 refine⟨hD.fwd,hD.inj,hD.ok,hD.topo,hD.closed,hD.closedA,?_,?_,hD.lt,?_,by rw [ow,ld];exact hD.size,?_,?_⟩
 ·intro j hj
  cases hj with
  | head=>simp
  | tail _ hj=>exact List.mem_cons_of_mem _ (hD.sub j hj)
 ·intro j hj hjC
  cases hj with
  | head=>simp at hjC
  | tail _ hj=>exact hD.quiet j hj (fun h=>hjC (List.mem_cons_of_mem _ h))
 ·intro j hj d hd
  rw [ld]
  cases hj with
  | head=>exact hdl d hd
  | tail _ hj=>exact hD.dlt j hj d hd
 ·intro s hs
  rw [dg,rY _ _ _ _ (fun x hx=>by rw [hD.size];exact hdl x hx)]
  split
  ·exact hv
  ·refine hD.slots s fun j hj hjC=>hs j (List.mem_cons_of_mem _ hj) (fun hm=>?_)
   cases hm with
   | head=>exact hD.new hj
   | tail _ hm=>exact hjC hm
 ·intro j hj hjC
  cases hj with
  | head=>simp at hjC
  | tail _ hj=>
   obtain⟨o,ho⟩:∃ o,all[i]?=some o:=⟨_,List.getElem?_eq_getElem (hD.lt i (by simp))⟩
   have hdo:aZ all i=o.dst:=by simp [aZ,ho]
   have hdd:∀ d,aZ all j=some d→o.dst≠some d:=fun d hd e=>by
    have:=hD.inj i j d (by rw [hdo];exact e) hd
    subst this;exact hD.new hj
   have hne:∀ p,all[j]?=some p→i ∉ edgesOf p:=fun p hp hm=>hD.new (hD.closedA0 j hj p hp i hm)
   have hcl:elemN i (closers all)=false:=by
    cases hb:elemN i (closers all) with
    | false=>rfl
    | true=>
     exfalso
     have hc:=pD hb
     unfold tN at hc
     rw [ho] at hc
     cases hn:Nat.beq (i+1) all.length with
     | false=>rw [hn] at hc;cases hc
     | true=>
      rw [hn] at hc
      have hn:=Nat.eq_of_beq_eq_true hn
      cases hm:bj o.op with
      | true=>simp [hm] at hc
      | false=>
       have hc:jo (lL i) (edgesOf o)=true:=by simpa [hm] using hc
       have hji:j≠i:=fun e=>hD.new (e▸hj)
       have hjl:=hD.lt j (List.mem_cons_of_mem _ hj)
       exact hjC (hD.closed i (by simp) o ho j (jJ.1 hc j (mA.2 (by omega))))
   rw [hdo]
   rcases hD.pend j hj (fun h=>hjC (List.mem_cons_of_mem _ h)) with h1 | h1 | ⟨p,hp,a,c⟩
   ·exact .inl h1
   ·exact .inr (.inr (h1.put ho hcl hne hdd))
   ·exact .inr (.inl (Chk.put ho ⟨p,hp,.inr ⟨a,c⟩⟩ hcl hne hdd))
end
section
variable (P:Program)
inductive SusRel (ρ:Rho):List (Nat × Key × AObj)→Slots→List AItem→Array Value→List Item→Prop where
 | ops {T:Slots} {t:Array Value} {all:List Oper} {i:Nat} {o:Oper} {rest:List Oper} {k:List AItem} {l:List Item} (hT:TRel ρ T t) (ho:all.drop i=o::rest) (hk:KRel k l):
   SusRel ρ [] T (.ops all (o::rest)::k) t (.inRegion ⟨all⟩ ((List.range all.length).drop i)::l)
 | dops {T:Slots} {t:Array Value} {all:List Oper} {i:Nat} {rest:List PStep} {A C ord:List Nat} {k:List AItem} {l:List Item} {R:List (Nat × Key × AObj)} (hD:DSus P ρ R all i rest A C ord T t) (hk:KRel k l):
   SusRel ρ R T (.dops all (.op i::rest)::k) t (.inRegion ⟨all⟩ (i::ord)::l)
 | range {T:Slots} {t:Array Value} {lk:Key} {L:Loc} {k:List AItem} {l:List Item} (hT:TRel ρ T t) (hl:ρ lk=some L) (hk:KRel k l):SusRel ρ [] T (.inRange lk::k) t (.inRangeFunc L.B::l)
inductive ActRel (ρ:Rho) (h:Heap):List (Nat × Key × AObj)→Slots→List AItem→Array Value→List Item→Prop where
 | plain {T:Slots} {t:Array Value} {k:List AItem} {l:List Item} (hT:TRel ρ T t) (hk:KRel k l):ActRel ρ h [] T k t l
 | ops {T:Slots} {t:Array Value} {all:List Oper} {i:Nat} {rest:List Oper} {k:List AItem} {l:List Item} (hT:TRel ρ T t) (ho:rest=all.drop i) (hk:KRel k l):
   ActRel ρ h [] T (.ops all rest::k) t (.inRegion ⟨all⟩ ((List.range all.length).drop i)::l)
 | dops {T:Slots} {t:Array Value} {all:List Oper} {plan:List PStep} {A C ord:List Nat} {k:List AItem} {l:List Item} {R:List (Nat × Key × AObj)} (hD:DInv P ρ h R all plan A C ord T t) (hk:KRel k l):
   ActRel ρ h R T (.dops all plan::k) t (.inRegion ⟨all⟩ ord::l)
 | endRange {T:Slots} {t:Array Value} {lk:Key} {L:Loc} {k:List AItem} {l:List Item} (hT:TRel ρ T t) (hl:ρ lk=some L) (hk:KRel k l):ActRel ρ h [] T (.endRange lk::k) t (.endRangeFunc L.B::l)
inductive ChRel (ρ:Rho):List (AV × Bool)→List PanicEntry→Prop where
 | nil:ChRel ρ [] []
 | cons (v:AV) (V:Value) (b:Bool) (r:List (AV × Bool)) (R:List PanicEntry) (hv:Rel ρ v V) (hr:ChRel ρ r R):ChRel ρ ((v,b)::r) ({ v:=V,recovered:=b }::R)
def Er:FK→CallKind
 | .normal=>.normal
 | .deferred=>.deferred
 | .round _=>.normal
def RoundRel(ρ:Rho)(fk:FK)(r:Option Nat):Prop:=match fk with
 | .round l=>∃ L,ρ l=some L∧r=some L.B
 | _=>r=none
def g9:FK→Prop
 | .round _=>False
 | _=>True
structure FBase (ρ:Rho) (fn:Nat) (ds:List ADef) (fk:FK) (fr:Frame):Prop where
 name:fr.fn=fn
 fd:∃ fd,jl P fn=some fd
 kind:fr.kind=Er fk
 round:RoundRel ρ fk fr.roundOf
 defers:DsRel ρ ds fr.defers
inductive MRel (ρ:Rho):AMode→FrameMode→Prop where
 | returning:MRel ρ .returning .returning
 | panicking {c:List (AV × Bool)} {C:List PanicEntry} (h:ChRel ρ c C):MRel ρ (.panicking c) (.panicking C)
inductive FRel (ρ:Rho):List (Nat × Key × AObj)→AFrame→Frame→Prop where
 | run {fn:Nat} {T:Slots} {k:List AItem} {ds:List ADef} {dfr:FK} {fr:Frame} {R:List (Nat × Key × AObj)} (hb:FBase P ρ fn ds dfr fr) (hm:fr.mode=.run) (hs:SusRel P ρ R T k fr.tmps fr.todo):FRel ρ R (.mk fn T k ds .run dfr) fr
 | un {fn:Nat} {T:Slots} {ds:List ADef} {m:AMode} {dfr:FK} {fr:Frame} (hb:FBase P ρ fn ds dfr fr) (hn:g9 dfr) (hm:MRel ρ m fr.mode) (hT:TRel ρ T fr.tmps):FRel ρ [] (.mk fn T [] ds m dfr) fr
inductive CsRel (CS0:List Frame) (ρ:Rho):List (Nat × Key × AObj)→List AFrame→List Frame→Prop where
 | nil:CsRel CS0 ρ [] [] CS0
 | cons {a:AFrame} {b:Frame} {k:List AFrame} {l:List Frame} {R S:List (Nat × Key × AObj)} (h:FRel P ρ R a b) (hr:CsRel CS0 ρ S k l):CsRel CS0 ρ (R++S) (a::k) (b::l)
def ge:Nat→FK→List AFrame→Nat × FK
 | fn,d,[]=>(fn,d)
 | _,_,.mk fn _ _ _ _ d::cs=>ge fn d cs
variable (w0:Base) (f0:Nat) (CS0:List Frame)
def Es:St→Machine→Prop
 | .go T k (.mk fn ds dfr cs) h,m=>∃ ρ fr CS w R S,m=lone fr CS w∧Sim w0 ρ h w∧Resv ρ h (R++S)∧Glob P ρ∧FBase P ρ fn ds dfr fr∧fr.mode=.run∧ActRel P ρ h R T k fr.tmps fr.todo∧CsRel P CS0 ρ S cs CS∧ge fn dfr cs=(f0,.normal)
 | .un am T (.mk fn ds dfr cs) h,m=>∃ ρ fr CS w S,m=lone fr CS w∧Sim w0 ρ h w∧Resv ρ h S∧Glob P ρ∧FBase P ρ fn ds dfr fr∧g9 dfr∧MRel ρ am fr.mode∧TRel ρ T fr.tmps∧CsRel P CS0 ρ S cs CS∧ge fn dfr cs=(f0,.normal)
 | _,_=>False
def Reach(m:Machine):St→Prop
 | .bad _=>True
 | .done v h=>∃ ρ fr w V,Steps P m (lone fr CS0 w)∧fr.fn=f0∧fr.leaving P w (.returned V)∧Rel ρ v V∧Sim w0 ρ h w∧Glob P ρ
 | .alt l T k (.mk fn ds dfr cs)=>∃ p,p ∈ l∧∃ ρ fr CS w V R S,Steps P m (lone (fr.finish V) CS w)∧Sim w0 ρ p.2 w∧Resv ρ p.2 (R++S)∧Glob P ρ∧FBase P ρ fn ds dfr fr∧fr.mode=.run∧SusRel P ρ R T k fr.tmps fr.todo∧CsRel P CS0 ρ S cs CS∧ge fn dfr cs=(f0,.normal)∧Rel ρ p.1 V
 | s=>∃ m',Steps P m m'∧Es P w0 f0 CS0 s m'
end
section
variable {P:Program} {ρ ρ':Rho} (s:Sub ρ ρ')
include s
theorem SusRel.mono:∀ {R:List (Nat × Key × AObj)} {T:Slots} {k:List AItem} {t:Array Value} {l:List Item},SusRel P ρ R T k t l→SusRel P ρ' R T k t l
 | _,_,_,_,_,.ops hT ho hk=>.ops (hT.mono s) ho hk
 | _,_,_,_,_,.dops hD hk=>.dops (hD.mono s) hk
 | _,_,_,_,_,.range hT hl hk=>.range (hT.mono s) (s _ _ hl) hk
theorem ChRel.mono:∀ {a:List (AV × Bool)} {A:List PanicEntry},ChRel ρ a A→ChRel ρ' a A
 | _,_,.nil=>.nil
 | _,_,.cons v V b r R hv hr=>.cons v V b r R (hv.mono s) (ChRel.mono hr)
theorem MRel.mono{a:AMode}{A:FrameMode}:MRel ρ a A→MRel ρ' a A
 | .returning=>.returning
 | .panicking h=>.panicking (h.mono s)
theorem RoundRel.mono{fk:FK}{r:Option Nat}(h:RoundRel ρ fk r):RoundRel ρ' fk r:=by
 cases fk with
 | round l=>obtain⟨L,a,b⟩:=h;exact⟨L,s _ _ a,b⟩
 | _=>exact h
theorem FBase.mono{fn:Nat}{ds:List ADef}{dfr:FK}{fr:Frame}(h:FBase P ρ fn ds dfr fr):FBase P ρ' fn ds dfr fr:=⟨h.name,h.fd,h.kind,h.round.mono s,h.defers.mono s⟩
theorem FRel.mono:∀ {R:List (Nat × Key × AObj)} {a:AFrame} {fr:Frame},FRel P ρ R a fr→FRel P ρ' R a fr
 | _,_,_,.run hb hm hs=>.run (hb.mono s) hm (hs.mono s)
 | _,_,_,.un hb hn hm hT=>.un (hb.mono s) hn (hm.mono s) (hT.mono s)
theorem CsRel.mono{CS0:List Frame}:∀ {R:List (Nat × Key × AObj)} {a:List AFrame} {CS:List Frame},CsRel P CS0 ρ R a CS→CsRel P CS0 ρ' R a CS
 | _,_,_,.nil=>.nil
 | _,_,_,.cons h hr=>.cons (h.mono s) (CsRel.mono hr)
end
end Go.VM
namespace Go.VM
section
variable {P:Program} {w0:Base} {f0:Nat} {CS0:List Frame}
theorem Reach.of_steps{m m':Machine}{s:St}(h:Steps P m m')(hr:Reach P w0 f0 CS0 m' s):Reach P w0 f0 CS0 m s:=by
 cases s with
 | bad=>exact trivial
 | done v hh=>obtain⟨ρ,fr,w,V,a,b⟩:=hr;exact⟨ρ,fr,w,V,h.trans a,b⟩
 | alt l T k c=>obtain⟨fn,ds,dfr,cs⟩:=c;obtain⟨p,hp,ρ,fr,CS,w,V,R,S,a,b⟩:=hr;exact⟨p,hp,ρ,fr,CS,w,V,R,S,h.trans a,b⟩
 | go T k c hh=>obtain⟨m2,a,b⟩:=hr;exact⟨m2,h.trans a,b⟩
 | un am T c hh=>obtain⟨m2,a,b⟩:=hr;exact⟨m2,h.trans a,b⟩
theorem dC{m:Machine}{T:Slots}{d:Option Nat}{v:AV}{k:Slots→St}(hk:(∀ x,d=some x→x < T.n)→Reach P w0 f0 CS0 m (k (putA T d v))):Reach P w0 f0 CS0 m (putK T d v k):=by
 rcases Ah T d v k with ⟨a,b⟩ | ⟨x,b⟩
 ·rw [b];exact hk a
 ·rw [b];exact trivial
theorem ru{n i:Nat}(hi:i < n):(List.range n).drop i=i::(List.range n).drop (i+1):=by
 rw [List.drop_eq_getElem_cons (by simpa using hi)]
 simp
theorem vc{all:List Oper}{i:Nat}{o:Oper}{rest:List Oper}(h:all.drop i=o::rest):i < all.length∧all[i]?=some o∧rest=all.drop (i+1):=by
 have hlt:i < all.length:=by
  rcases Nat.lt_or_ge i all.length with h' | h'
  ·exact h'
  ·rw [List.drop_eq_nil_of_le h'] at h;cases h
 rw [List.drop_eq_getElem_cons hlt] at h
 injection h with h1 h2
 exact⟨hlt,by rw [List.getElem?_eq_getElem hlt,h1],h2.symm⟩
theorem finish_reach{ρ:Rho}{h:Heap}{w:World}{fn:Nat}{T:Slots}{k:List AItem}{ds:List ADef}{dfr:FK}{cs:List AFrame}{fr:Frame}{CS:List Frame}{v:AV}{V:Value}{am:AMode}{R S:List (Nat × Key × AObj)}
  (hs:Sim w0 ρ h w) (hres:Resv ρ h (R++S)) (hg:Glob P ρ) (hb:FBase P ρ fn ds dfr fr) (hm:fr.mode=.run) (hsus:SusRel P ρ R T k fr.tmps fr.todo) (hcs:CsRel P CS0 ρ S cs CS) (hbot:ge fn dfr cs=(f0,.normal)) (hv:Rel ρ v V):
  Reach P w0 f0 CS0 (lone (fr.finish V) CS w) (finish (.mk fn T k ds am dfr) v cs h):=by
 generalize htm:fr.tmps=t at hsus
 generalize htd:fr.todo=l at hsus
 cases hsus with
 | ops hT ho hk=>
  rename_i all i o rest k l
  obtain⟨hlt,hoi,hrest⟩:=vc ho
  rw [ru hlt] at htd
  dsimp only [finish]
  refine dC fun hd=>⟨_,.refl _ _,ρ,_,CS,w,_,S,rfl,hs,hres,hg,⟨?_,hb.fd,?_,?_,?_⟩,?_,?_,hcs,hbot⟩
  all_goals rw [gj htd]
  ·exact hb.name
  ·exact hb.kind
  ·exact hb.round
  ·exact hb.defers
  ·exact hm
  ·have hdst:((⟨all⟩:Array Oper)[i]?).bind (·.dst)=o.dst:=by simp [hoi]
   rw [hdst,htm]
   exact .ops (hT.putA hd hv) hrest hk
 | dops hD hk=>
  rename_i all i rest A C ord k l
  dsimp only [finish]
  rw [yF]
  refine dC fun hd=>⟨_,.refl _ _,ρ,_,CS,w,_,S,rfl,hs,hres,hg,⟨?_,hb.fd,?_,?_,?_⟩,?_,?_,hcs,hbot⟩
  all_goals rw [gj htd]
  ·exact hb.name
  ·exact hb.kind
  ·exact hb.round
  ·exact hb.defers
  ·exact hm
  ·have hdst:((⟨all⟩:Array Oper)[i]?).bind (·.dst)=aZ all i:=by simp [aZ]
   rw [hdst,htm]
   exact .dops (hD.resume hd hv) hk
 | range hT hl hk=>
  rename_i lk L k l
  have hfin:fr.finish V={ fr with todo:=.endRangeFunc L.B::l }:=by unfold Frame.finish;rw [htd]
  dsimp only [finish]
  rw [hfin]
  exact⟨_,.refl _ _,ρ,_,CS,w,_,S,rfl,hs,hres,hg,⟨hb.name,hb.fd,hb.kind,hb.round,hb.defers⟩,hm,by rw [htm];exact .endRange hT hl hk,hcs,hbot⟩
end
end Go.VM
namespace Go.VM
section
variable (P:Program) [Hook]
def Hq:Prop:=∀ f fd,jl P f=some fd→fd.body=none→∀ (w0:Base) (ρ:Rho) (h:Heap) (w:World) (args:List AV) (A:List Value) (v:AV) (h':Heap),Sim w0 ρ h w→RelL ρ args A→H4 P f fd args h=.val v h'→
 ∃ ρ' V w',Sub ρ ρ'∧Kept ρ h ρ' h'∧Sim w0 ρ' h' w'∧Rel ρ' v V∧(callFunc f ⟨A⟩).run P w=.ok (.value V) w'
def SumOk(w0:Base):Prop:=∀ (f:Nat) (ρ:Rho) (h:Heap) (w:World) (args:List AV) (A:List Value) (v:AV) (h':Heap),Sim w0 ρ h w→RelL ρ args A→sumA (sumKind f) args h=some (v,h')→
 (callFunc f ⟨A⟩).run P w=.ok (.enter f ⟨A⟩) w∧Calls P f ⟨A⟩ w (fun e w'=>∃ ρ' V,e=.returned V∧Sub ρ ρ'∧Kept ρ h ρ' h'∧Rel ρ' v V∧Sim w0 ρ' h' w')
structure Env (w0:Base):Prop where
 ext:Hq P
 sum:SumOk P w0
end
section
variable {P:Program} {w0:Base} {f0:Nat} {CS0:List Frame} {ρ:Rho} {h:Heap} {w:World} {R S:List (Nat × Key × AObj)} [Hook]
omit [Hook] in
theorem gf{f:Nat}{fd:Func}(hf:jl P f=some fd):P.funcs[f]?=some fd∧(fd.name == "runtime.NumGoroutine")=false:=by
 unfold jl at hf
 cases hp:P.funcs[f]? with
 | none=>simp [hp] at hf
 | some fn=>
  rw [hp] at hf
  dsimp only at hf
  split at hf
  ·cases hf
  ·rename_i hne
   have:fn=fd:=by simpa using hf
   subst this
   exact⟨rfl,by simpa using hne⟩
omit [Hook] in
theorem po{f:Nat}{c:Code}(hb:bodyOf P f=some c):∃ fd,jl P f=some fd∧fd.body=some c:=by
 unfold bodyOf at hb
 cases hf:jl P f with
 | none=>simp [hf] at hb
 | some fd=>exact⟨fd,rfl,by simpa [hf] using hb⟩
omit [Hook] in
theorem ee{f:Nat}{c:Code}{A:List Value}(hb:bodyOf P f=some c):(callFunc f ⟨A⟩).run P w=.ok (.enter f ⟨A⟩) w:=by
 obtain⟨fd,hf,hbd⟩:=po hb
 obtain⟨hp,hn⟩:=gf hf
 have hn':¬ fd.name= "runtime.NumGoroutine":=by simpa using hn
 simp [callFunc,run_program,hp,hn',hbd]
omit [Hook] in
theorem enter_reach{f:Nat}{args:List AV}{A:List Value}{dfr:FK}{cs:List AFrame}{CS:List Frame}{c:Code}(hnr:g9 dfr)(hs:Sim w0 ρ h w)(hres:Resv ρ h S)(hg:Glob P ρ)(hcs:CsRel P CS0 ρ S cs CS)(hr:RelL ρ args A)(hb:bodyOf P f=some c)
  (hbot:ge f dfr cs=(f0,.normal)):Reach P w0 f0 CS0 (lone (Frame.enter P f ⟨A⟩ (Er dfr)) CS w) (enter P f args dfr cs h c):=by
 unfold enter
 cases hle:Nat.ble (len args) (ntmpsOf P f) with
 | false=>exact trivial
 | true=>
  have hle:=Nat.le_of_ble_eq_true hle
  rw [len_eq] at hle
  obtain⟨fd,hf,hbd⟩:=po hb
  obtain⟨hp,hn⟩:=gf hf
  have hnt:ntmpsOf P f=fd.ntmps:=by simp [ntmpsOf,hf]
  refine⟨_,.refl _ _,ρ,_,CS,w,[],S,rfl,hs,hres,hg,⟨rfl,⟨fd,hf⟩,rfl,by cases dfr with | round l=>exact hnr.elim | _=>rfl,.nil⟩,rfl,?_,hcs,hbot⟩
  refine .plain ?_ ?_
  ·have:=Ag (ρ:=ρ) hr (n:=ntmpsOf P f) hle
   simp only [Frame.enter,hp,Option.map_some,Option.getD_some]
   rw [hnt] at this ⊢
   simpa using this
  ·simp only [Frame.enter,hp,Option.bind_some,hbd,Option.getD_some]
   exact .cons (.code c) .nil
omit [Hook] in
theorem gX:∀ (ops:List Oper) (r:ST) (n s:Nat),(Slots.mk n (oR ops r)).get s=.junk∨((Slots.mk n (oR ops r)).get s=(Slots.mk n r).get s∧∀ o ∈ ops,o.dst≠some s)
 | [],r,n,s=>.inr ⟨rfl,by simp⟩
 | o::ops,r,n,s=>by
  unfold oR
  cases hd:o.dst with
  | none=>
   rcases gX ops r n s with h | ⟨h1,h2⟩
   ·exact .inl h
   ·exact .inr ⟨h1,fun p hp=>by cases hp with | head=>rw [hd];simp | tail _ hp=>exact h2 p hp⟩
  | some d=>
   dsimp only
   rcases gX ops (r.set .junk (keyOf d)) n s with h | ⟨h1,h2⟩
   ·exact .inl h
   ·by_cases hds:d=s
    ·subst hds;left;rw [h1,Slots.get_set_same]
    ·right
     refine⟨by rw [h1,Slots.get_set_other _ _ _ _ _ hds],fun p hp=>?_⟩
     cases hp with
     | head=>rw [hd];simpa using hds
     | tail _ hp=>exact h2 p hp
omit [Hook] in
theorem SusRel.scrub{T:Slots}{k:List AItem}{t:Array Value}{l:List Item}(hs:SusRel P ρ R T k t l):TRel ρ (scrub k T) t:=by
 cases hs with
 | ops hT ho hk=>exact hT
 | range hT hl hk=>exact hT
 | dops hD hk=>
  rename_i all i rest A C ord k l
  obtain⟨n,r⟩:=T
  refine⟨hD.size,fun s=>?_⟩
  show Rel ρ ((Slots.mk n (oR all r)).get s) _
  rcases gX all r n s with h | ⟨h1,h2⟩
  ·rw [h];exact .junk _
  ·rw [h1]
   refine hD.slots s fun j hj hjC hd=>?_
   unfold aZ at hd
   cases hp:all[j]? with
   | none=>simp [hp] at hd
   | some p=>rw [hp] at hd;exact h2 p (List.mem_of_getElem? hp) hd
omit [Hook] in
theorem pp{T:Slots}{op:Op}{c:Call}(hop:op=.defer c):(∃ d h',execA P op T h=.defer d h')∨(∃ m,execA P op T h=.bad m):=by
 subst hop
 show (∃ d h',jf P c T h=.defer d h')∨(∃ m,jf P c T h=.bad m)
 unfold jf
 split
 ·split
  ·exact .inl ⟨_,_,rfl⟩
  ·exact .inr ⟨_,rfl⟩
 ·exact .inr ⟨_,rfl⟩
omit [Hook] in
theorem vd{ρ:Rho}:∀ (ps:List Nat) (args:List AV) (A:List Value) (T T':Slots) (t:Array Value),RelL ρ args A→TRel ρ T t→jn ps args T=some T'→
  A.length=ps.length∧TRel ρ T' ((ps.zip A).foldl (fun tmps x=>tmps.setIfInBounds x.1 x.2) t)
 | [],[],A,T,T',t,hr,hT,h=>by
  cases hr
  have:T=T':=by simpa [jn] using h
  subst this
  exact⟨rfl,hT⟩
 | [],_::_,A,T,T',t,hr,hT,h=>by simp [jn] at h
 | _::_,[],A,T,T',t,hr,hT,h=>by simp [jn] at h
 | p::ps,v::args,A,.mk n r,T',t,hr,hT,h=>by
  cases hr with
  | cons _ V _ R hv hr=>
   unfold jn at h
   cases hb:Nat.blt p n with
   | false=>simp [hb] at h
   | true=>
    simp only [hb,cond_true] at h
    obtain⟨h1,h2⟩:=vd ps args R _ T' (t.setIfInBounds p V) hr (hT.put (blt_lt hb) hv) h
    exact⟨by simp [h1],by simpa using h2⟩
omit [Hook] in
theorem mq(hs:Sim w0 ρ h w){l:Key}{L:Loc}(hl:ρ l=some L){st:LoopState}{p:Option Code}{f:Nat}{tm:Slots}{ps:List Nat}{a b:Code}{d:Key}(hg:h.get l=some (.loop st p f tm ps a b d)):
  ¬ w0.F L.B∧L.B < w.heap.size∧∃ t Ld,ρ d=some Ld∧TRel ρ tm t∧w.heap[L.B]?=some (.loop { state:=st,pending:=p,fn:=f,tmps:=t,params:=⟨ps⟩,assign:=a,body:=b,defers:=Ld.B }):=by
 obtain⟨o,ho,hlt,hr⟩:=hs.obj l L hl
 rw [hg] at ho;cases ho
 obtain⟨hN,t,Ld,h1,h2,h3⟩:=hr
 exact⟨hN,hlt,t,Ld,h1,h2,h3⟩
theorem ry(hX:Env P w0){fr:Frame}{CS:List Frame}{fn:Nat}{T:Slots}{it:AItem}{k:List AItem}{ds:List ADef}{dfr:FK}{cs:List AFrame}{ops:Array Oper}{i:Nat}{idx:List Nat}{l:List Item}{o:Oper}{r:Res}{next:AV→Heap→St}
  (hs:Sim w0 ρ h w) (hres:Resv ρ h (R++S)) (hg:Glob P ρ) (hb:FBase P ρ fn ds dfr fr) (hm:fr.mode=.run) (ht:fr.todo=.inRegion ops (i::idx)::l) (ho:ops[i]?=some o) (hw:Region.wanted o (yielded ops fr.tmps)=true)
  (hsus:SusRel P ρ R T (it::k) fr.tmps fr.todo) (hcs:CsRel P CS0 ρ S cs CS) (hbot:ge fn dfr cs=(f0,.normal)) (hn:NextOk P w0 ρ h w (execOp fr.eval o) r) (hx:∃ Tm,r=execA P o.op Tm h∨r=execD P o.op Tm h)
  (hval:∀ ρ' h' w' v V,Sub ρ ρ'→Resv ρ' h' (R++S)→Sim w0 ρ' h' w'→Rel ρ' v V→Reach P w0 f0 CS0 (lone (fr.finish V) CS w') (next v h')):
  Reach P w0 f0 CS0 (lone fr CS w) (upon P r T (it::k) (.mk fn ds dfr cs) next):=by
 have hnd:(∀ d h',r≠.defer d h')→(∀ m,r≠.bad m)→fr.roundOf=none∨∀ c,o.op≠.defer c:=by
  intro h1 h2
  obtain⟨Tm,hx⟩:=hx
  refine .inr fun c hc=>?_
  have hxA:r=execA P o.op Tm h:=by
   rcases hx with hx | hx
   ·exact hx
   ·rw [hx];unfold execD
    rcases pp (P:=P) (h:=h) (T:=Tm) hc with ⟨d,h',e⟩ | ⟨m,e⟩<;>rw [e]<;>rfl
  rcases pp (P:=P) (h:=h) (T:=Tm) hc with ⟨d,h',e⟩ | ⟨m,e⟩
  ·exact h1 d h' (by rw [hxA,e])
  ·exact h2 m (by rw [hxA,e])
 cases r with
 | val v h'=>
  have hnd2:=hnd (by simp) (by simp)
  clear hnd
  obtain⟨ρ',w',hsub,hkept,hs',hc⟩:=hn
  rcases hc with ⟨V,hv,hrun⟩ | ⟨rfl,hrun⟩
  ·exact .of_steps (.one (iN hm hnd2 ht ho hw hrun)) (hval ρ' h' w' v V hsub (hres.kept hkept) hs' hv)
  ·exact .of_steps (.one (wo hm hnd2 ht ho hw hrun)) (hval ρ' h' w' _ Go.undef hsub (hres.kept hkept) hs' .undef)
 | enter f args h'=>
  have hnd:=hnd (by simp) (by simp)
  obtain⟨rfl,A,hA,hrun⟩:=hn
  show Reach P w0 f0 CS0 _ (du P f args (.mk fn T (it::k) ds .run dfr) cs h')
  have hsum:∀ v h2,sumA (sumKind f) args h'=some (v,h2)→Reach P w0 f0 CS0 (lone fr CS w) (finish (.mk fn T (it::k) ds .run dfr) v cs h2):=by
   intro v h2 he
   obtain⟨hc,hcalls⟩:=hX.sum f ρ h' w args A v h2 hs hA he
   rw [hc] at hrun
   refine .of_steps (.one (yB hm hnd ht ho hw hrun)) ?_
   obtain⟨e,w',fr',⟨ρ',V,rfl,hsub,hkept,hv,hs'⟩,hcomes,_,hl⟩:=hcalls (fr::CS)
   refine .of_steps hcomes ?_
   refine .of_steps (.one (step_leave_returned hl)) ?_
   exact finish_reach hs' (hres.kept hkept) (hg.mono hsub) (hb.mono hsub) hm (hsus.mono hsub) (hcs.mono hsub) hbot hv
  have h0:Reach P w0 f0 CS0 (lone fr CS w) (enterOr0 P f args (.mk fn T (it::k) ds .run dfr) cs h')→Reach P w0 f0 CS0 (lone fr CS w) (du P f args (.mk fn T (it::k) ds .run dfr) cs h'):=by
   intro h0
   unfold du
   cases hk:sumKind f with
   | zero=>exact h0
   | succ n=>
    show Reach P w0 f0 CS0 _ (jm P f args _ cs h' (sumA (n+1) args h'))
    unfold jm
    split
    ·rename_i v h2 he;exact hsum v h2 (by rw [hk];exact he)
    ·exact h0
  refine h0 ?_
  unfold enterOr0
  cases hbd:bodyOf P f with
  | some c=>
   rw [ee hbd] at hrun
   refine .of_steps (.one (yB hm hnd ht ho hw hrun)) ?_
   exact enter_reach (dfr:=.normal) trivial hs hres hg (.cons (.run hb hm hsus) hcs) hA hbd hbot
  | none=>
   show Reach P w0 f0 CS0 _ (nB P f args (.mk fn T (it::k) ds .run dfr) cs h')
   unfold nB
   cases hf:jl P f with
   | none=>exact trivial
   | some fd=>
    have hfb:fd.body=none:=by simpa [bodyOf,hf] using hbd
    dsimp only
    cases he:H4 P f fd args h' with
    | val v h2=>
     obtain⟨ρ',V,w',hsub,hkept,hs',hv,hrun'⟩:=hX.ext f fd hf hfb w0 ρ h' w args A v h2 hs hA he
     rw [hrun'] at hrun
     refine .of_steps (.one (iN hm hnd ht ho hw hrun)) ?_
     exact finish_reach hs' (hres.kept hkept) (hg.mono hsub) (hb.mono hsub) hm (hsus.mono hsub) (hcs.mono hsub) hbot hv
    | _=>exact trivial
 | round lk args h'=>
  have hnd:=hnd (by simp) (by simp)
  obtain⟨rfl,L,A,hL,hA,hrun⟩:=hn
  show Reach P w0 f0 CS0 _ (lI P lk args (.mk fn T (it::k) ds .run dfr) cs h')
  unfold lI
  cases hgl:h'.get lk with
  | none=>exact trivial
  | some ob=>
   cases ob with
   | loop st p fl tm ps a b d=>
    dsimp only
    cases hpa:jn ps args tm with
    | none=>exact trivial
    | some T'=>
     cases hfl:jl P fl with
     | none=>exact trivial
     | some fd=>
      dsimp only
      obtain⟨_,_,t,Ld,hd,hTl,hO⟩:=mq hs hL hgl
      obtain⟨hlen,hT'⟩:=vd ps args A tm T' t hA hTl hpa
      have hy:(Instr.yield L.B ⟨A⟩).run P w=.ok (.round L.B fl (((⟨ps⟩:Array Nat).zip ⟨A⟩).foldl (fun tmps x=>tmps.setIfInBounds x.1 x.2) t) a b) w:=by
       simp [Instr.yield,Instr.getLoop,af hO (by simp),hlen]
      rw [hy] at hrun
      refine .of_steps (.one (EI hm hnd ht ho hw hrun)) ?_
      refine⟨_,.refl _ _,ρ,_,fr::CS,w,[],R++S,rfl,hs,hres,hg,⟨rfl,⟨fd,hfl⟩,rfl,⟨L,hL,rfl⟩,.nil⟩,rfl,.plain ?_ (.cons (.code a) (.cons .beginRound (.cons (.code b) .nil))),.cons (.run hb hm hsus) hcs,hbot⟩
      have:((⟨ps⟩:Array Nat).zip ⟨A⟩).foldl (fun tmps x=>tmps.setIfInBounds x.1 x.2) t=(ps.zip A).foldl (fun tmps x=>tmps.setIfInBounds x.1 x.2) t:=by
       rw [←Array.foldl_toList];simp
      show TRel ρ T' (((⟨ps⟩:Array Nat).zip ⟨A⟩).foldl (fun tmps x=>tmps.setIfInBounds x.1 x.2) t)
      rw [this];exact hT'
   | _=>exact trivial
 | defer d h'=>
  obtain⟨rfl,D,hD,hrun⟩:=hn
  have hrd:=hb.round
  cases dfr with
  | round l=>exact trivial
  | normal=>
   refine .of_steps (.one (yC hm hrd ht ho hw hrun)) ?_
   exact finish_reach (am:=.run) (fr:={ fr with defers:=D::fr.defers }) hs hres hg ⟨hb.name,hb.fd,hb.kind,hb.round,.cons _ _ _ _ hD hb.defers⟩ hm hsus hcs hbot .undef
  | deferred=>
   refine .of_steps (.one (yC hm hrd ht ho hw hrun)) ?_
   exact finish_reach (am:=.run) (fr:={ fr with defers:=D::fr.defers }) hs hres hg ⟨hb.name,hb.fd,hb.kind,hb.round,.cons _ _ _ _ hD hb.defers⟩ hm hsus hcs hbot .undef
 | recover h'=>
  obtain⟨rfl,hrun⟩:=hn
  have hrd:=hb.round
  have hk:=hb.kind
  cases dfr with
  | round l=>exact trivial
  | normal=>
   have hst:=rW (CS:=CS) hm hrd ht ho hw hrun
   have htr:tryRecover fr CS=none:=by unfold tryRecover;rw [hk];rfl
   rw [htr] at hst
   exact .of_steps (.one hst) (finish_reach (am:=.run) hs hres hg hb hm hsus hcs hbot .nilIface)
  | deferred=>
   have hst:=rW (CS:=CS) hm hrd ht ho hw hrun
   show Reach P w0 f0 CS0 _ (lH (.mk fn T (it::k) ds .run .deferred) cs h')
   unfold lH
   cases hcs with
   | nil=>exact trivial
   | cons hf hr=>
    rename_i a b cs' CS' R1 S1
    have hk':fr.kind=.deferred:=hk
    have nope:tryRecover fr (b::CS')=none→∀ m,Reach P w0 f0 CS0 (lone fr (b::CS') w) (finish (.mk fn T (it::k) ds m .deferred) .nilIface (a::cs') h'):=by
     intro htr m
     rw [htr] at hst
     exact .of_steps (.one hst) (finish_reach hs hres hg hb hm hsus (.cons hf hr) hbot .nilIface)
    cases hf with
    | run hb2 hm2 hs2=>
     refine nope ?_ _
     unfold tryRecover;rw [hk'];dsimp only;rw [hm2]
    | un hb2 hn2 hm2 hT2=>
     generalize hmb:b.mode=mb at hm2
     cases hm2 with
     | returning=>
      refine nope ?_ _
      unfold tryRecover;rw [hk'];dsimp only;rw [hmb]
     | panicking hch=>
      cases hch with
      | nil=>
       refine nope ?_ _
       unfold tryRecover;rw [hk'];dsimp only;rw [hmb]
      | cons v V bb r R hv hr2=>
       cases bb with
       | true=>
        refine nope ?_ _
        unfold tryRecover;rw [hk'];dsimp only;rw [hmb]
       | false=>
        have htr:tryRecover fr (b::CS')=some (V,{ b with mode:=.panicking ({ v:=V,recovered:=true }::R) }::CS'):=by
         unfold tryRecover;rw [hk'];dsimp only;rw [hmb]
        rw [htr] at hst
        refine .of_steps (.one hst) ?_
        exact finish_reach hs hres hg hb hm hsus (.cons (.un ⟨hb2.name,hb2.fd,hb2.kind,hb2.round,hb2.defers⟩ hn2 (.panicking (.cons v V true r R hv hr2)) hT2) hr) hbot hv
 | pan v h'=>
  obtain⟨rfl,V,hv,hrun⟩:=hn
  have hrd:=hb.round
  have hra:fr.raise [{ v:=V,recovered:=false }]={ fr with mode:=.panicking [{ v:=V,recovered:=false }] }:=by unfold Frame.raise;rw [hm]
  have fin:g9 dfr→fr.roundOf=none→Reach P w0 f0 CS0 (lone fr CS w) (.un (.panicking [(v,false)]) (scrub (it::k) T) (.mk fn ds dfr cs) h'):=by
   intro hnr hro
   have hst:=EH (P:=P) (CS:=CS) hm hro ht ho hw hrun
   rw [hra] at hst
   exact⟨_,.one hst,ρ,_,CS,w,S,rfl,hs,hres.right,hg,⟨hb.name,hb.fd,hb.kind,hb.round,hb.defers⟩,hnr,.panicking (.cons v V false [] [] hv .nil),hsus.scrub,hcs,hbot⟩
  cases dfr with
  | round l=>exact trivial
  | normal=>exact fin trivial hrd
  | deferred=>exact fin trivial hrd
 | alts l=>
  have hnd:=hnd (by simp) (by simp)
  obtain⟨p,hp,ρ',V,w',hsub,hkept,hs',hv,hrun⟩:=hn
  exact⟨p,hp,ρ',fr,CS,w',V,R,S,.one (iN hm hnd ht ho hw hrun),hs',hres.kept hkept,hg.mono hsub,hb.mono hsub,hm,hsus.mono hsub,hcs.mono hsub,hbot,hv⟩
 | bad m=>exact trivial
end
end Go.VM
namespace Go.VM
section
variable {P:Program} {w0:Base} {f0:Nat} {CS0:List Frame} [Hook]
theorem kK(hP:TypesOk P)(hX:Env P w0){all:List Oper}{k:List AItem}{l:List Item}{CS:List Frame}{cs:List AFrame}{fn:Nat}{ds:List ADef}{dfr:FK}{S:List (Nat × Key × AObj)}(hk:KRel k l)(hbot:ge fn dfr cs=(f0,.normal)):
  ∀ (rest:List Oper) (i:Nat) (ρ:Rho) (h:Heap) (w:World) (T:Slots) (fr:Frame),rest=all.drop i→Sim w0 ρ h w→Resv ρ h S→Glob P ρ→CsRel P CS0 ρ S cs CS→FBase P ρ fn ds dfr fr→fr.mode=.run→fr.todo=.inRegion ⟨all⟩ ((List.range all.length).drop i)::l→TRel ρ T fr.tmps→
   Reach P w0 f0 CS0 (lone fr CS w) (stepOps P all k (.mk fn ds dfr cs) rest T h):=by
 intro rest
 induction rest with
 | nil=>
  intro i ρ h w T fr hrest hs hres hg hcs hb hm ht hT
  have hi:all.length≤i:=by
   rcases Nat.lt_or_ge i all.length with h' | h'
   ·rw [List.drop_eq_getElem_cons h'] at hrest;cases hrest
   ·exact h'
  have:(List.range all.length).drop i=[]:=List.drop_eq_nil_of_le (by simpa using hi)
  rw [this] at ht
  exact⟨_,.one (kP hm ht),ρ,_,CS,w,[],S,rfl,hs,hres,hg,⟨hb.name,hb.fd,hb.kind,hb.round,hb.defers⟩,hm,.plain hT hk,hcs,hbot⟩
 | cons o rest ih=>
  intro i ρ h w T fr hrest hs hres hg hcs hb hm ht hT
  obtain⟨hlt,hoi,hrest'⟩:=vc hrest.symm
  have ht0:=ht
  rw [ru hlt] at ht
  have ho':(⟨all⟩:Array Oper)[i]?=some o:=by simpa using hoi
  have hdst:((⟨all⟩:Array Oper)[i]?).bind (·.dst)=o.dst:=by simp [hoi]
  have cont:∀ ρ' h' w' v V,Sub ρ ρ'→Resv ρ' h' ([]++S)→Sim w0 ρ' h' w'→Rel ρ' v V→Reach P w0 f0 CS0 (lone (fr.finish V) CS w') (putK T o.dst v (fun T=>stepOps P all k (.mk fn ds dfr cs) rest T h')):=by
   intro ρ' h' w' v V hsub hres' hs' hv
   refine dC fun hd=>?_
   rw [gj ht,hdst]
   exact ih (i+1) ρ' h' w' (putA T o.dst v) _ hrest' hs' hres' (hg.mono hsub) (hcs.mono hsub) (⟨hb.name,hb.fd,hb.kind,hb.round.mono hsub,hb.defers.mono hsub⟩) hm rfl ((hT.mono hsub).putA hd hv)
  show Reach P w0 f0 CS0 _ (oneOp P o (.ops all (o::rest)) k (.mk fn ds dfr cs) T T h (stepOps P all k (.mk fn ds dfr cs) rest) (guardA o.guard all T))
  unfold oneOp
  cases hgu:guardA o.guard all T with
  | none=>exact trivial
  | some b=>
   have hw:=iO hT hgu
   cases b with
   | false=>exact .of_steps (.one (lm hm ht ho' hw)) (cont ρ h w .undef Go.undef (Sub.refl _) hres hs .undef)
   | true=>
    exact ry (R:=[]) hX hs hres hg hb hm ht ho' hw (by rw [ht0];exact .ops hT hrest.symm hk) hcs hbot (mc hP hs (gi hg hT) o) ⟨T,.inl rfl⟩ cont
theorem iH(hP:TypesOk P)(hX:Env P w0){all:List Oper}{k:List AItem}{l:List Item}{CS:List Frame}{cs:List AFrame}{fn:Nat}{ds:List ADef}{dfr:FK}{S:List (Nat × Key × AObj)}(hk:KRel k l)(hbot:ge fn dfr cs=(f0,.normal)):
  ∀ (plan:List PStep) (A C ord:List Nat) (ρ:Rho) (h:Heap) (w:World) (T:Slots) (fr:Frame) (R:List (Nat × Key × AObj)),Sim w0 ρ h w→Resv ρ h (R++S)→Glob P ρ→CsRel P CS0 ρ S cs CS→FBase P ρ fn ds dfr fr→fr.mode=.run→fr.todo=.inRegion ⟨all⟩ ord::l→DInv P ρ h R all plan A C ord T fr.tmps→
   Reach P w0 f0 CS0 (lone fr CS w) (stepPlan P all k (.mk fn ds dfr cs) plan T h):=by
 intro plan
 induction plan with
 | nil=>
  intro A C ord ρ h w T fr R hs hres hg hcs hb hm ht hD
  have hfr:fr=fu fr fr.tmps all ord l:=by unfold fu;rw [←ht]
  obtain⟨ρ',w',t',hsub,hres',hs',hsteps,hT⟩:=EM (CS:=CS) (k:=l) hP hm ord ρ w fr.tmps C R hg hs hres hD
  rw [←hfr] at hsteps
  exact⟨_,hsteps,ρ',_,CS,w',[],S,rfl,hs',hres',hg.mono hsub,(⟨hb.name,hb.fd,hb.kind,hb.round.mono hsub,hb.defers.mono hsub⟩),hm,.plain hT hk,hcs.mono hsub,hbot⟩
 | cons st rest ih=>
  intro A C ord ρ h w T fr R hs hres hg hcs hb hm ht hD
  have hfr:fr=fu fr fr.tmps all ord l:=by unfold fu;rw [←ht]
  cases st with
  | chk j=>
   show Reach P w0 f0 CS0 _ (chkD P j all T h (stepPlan P all k (.mk fn ds dfr cs) rest))
   unfold chkD
   rw [ot]
   cases hoj:all[j]? with
   | none=>exact trivial
   | some o=>
    dsimp only
    cases hc:chkO P o all T h with
    | false=>exact trivial
    | true=>
     have hmo:bj o.op=false:=by have:=(rt hD.ok).1;simpa [eS,hoj] using this
     refine ih A C ord ρ h w T fr R hs hres hg hcs hb hm ht (hD.asked fun hA hC=>Eq hoj ?_ hmo hc)
     exact rX hoj (hD.quiet j hA hC)
  | op i=>
   show Reach P w0 f0 CS0 _ (opD P i rest all k (.mk fn ds dfr cs) T h (stepPlan P all k (.mk fn ds dfr cs) rest))
   obtain⟨o,ho,hiA,hea,_,_,_⟩:=jD hD.ok
   unfold opD
   rw [ot,ho]
   dsimp only
   unfold opM oneOpD
   have hdo:aZ all i=o.dst:=by simp [aZ,ho]
   have ho':(⟨all⟩:Array Oper)[i]?=some o:=by simpa using ho
   have hdst:((⟨all⟩:Array Oper)[i]?).bind (·.dst)=aZ all i:=by simp [aZ]
   cases hgu:guardA o.guard all (maskT (edgesOf o) all T) with
   | none=>exact trivial
   | some b=>
    cases hact:cg P all i with
    | false=>
     have quiet:∀ v,((guardA o.guard all (maskT (edgesOf o) all T)=some true∧execD P o.op (maskT (edgesOf o) all T) h=.val v h)∨(guardA o.guard all (maskT (edgesOf o) all T)=some false∧v=.undef))→
       Reach P w0 f0 CS0 (lone fr CS w) (putK T o.dst v (fun T=>stepPlan P all k (.mk fn ds dfr cs) rest T h)):=fun v hv=>
      dC fun hd=>ih (i::A) C ord ρ h w _ fr R hs hres hg hcs hb hm ht (hD.quietOp ho hact hd hv)
     cases b with
     | false=>exact quiet .undef (.inr ⟨hgu,rfl⟩)
     | true=>
      dsimp only
      cases hmo:bj o.op with
      | false=>
       rcases pv (P:=P) (h:=h) (T:=maskT (edgesOf o) all T) o.op (rX ho hact) hmo with ⟨v,hv⟩ | ⟨m,hv⟩
       ·rw [hv];exact quiet v (.inl ⟨hgu,hv⟩)
       ·rw [hv];exact trivial
      | true=>
       rcases yI (P:=P) hmo (maskT (edgesOf o) all T) with ⟨ob,vf,hmk⟩ | hbad
       ·rw [hmk h]
        obtain⟨tr,nx⟩:=h
        cases hgn:tr.get nx with
        | some x=>
         have:(Heap.mk tr nx).alloc ob (fun b h=>Res.val (vf b) h)=.bad "key":=by
          show Heap.allocT tr nx ob (fun b h=>Res.val (vf b) h)=.bad "key"
          unfold Heap.allocT;rw [hgn]
         rw [this];exact trivial
        | none=>
         have:(Heap.mk tr nx).alloc ob (fun b h=>Res.val (vf b) h)=.val (vf nx) (.mk (tr.set ob nx) (incr nx)):=by
          show Heap.allocT tr nx ob (fun b h=>Res.val (vf b) h)=.val (vf nx) (.mk (tr.set ob nx) (incr nx))
          unfold Heap.allocT;rw [hgn]
         rw [this]
         have hno:ρ nx=none:=hs.none_of_get hgn
         have hoth:∀ k,k≠nx→(Heap.mk (tr.set ob nx) (incr nx)).get k=(Heap.mk tr nx).get k:=fun k hk=>RT.get_set_other ob nx k tr (Ne.symm hk)
         show Reach P w0 f0 CS0 (lone fr CS w) (putK T o.dst (vf nx) (fun T=>stepPlan P all k (.mk fn ds dfr cs) rest T (.mk (tr.set ob nx) (incr nx))))
         refine dC fun hd=>ih (i::A) C ord ρ _ w _ fr ((i,nx,ob)::R) (hs.ext fun b L e=>hoth b (fun e2=>by rw [e2,hno] at e;cases e)) ?_ hg hcs hb hm ht (hD.madeHere ho hact hmo hd hgu hmk)
         exact hres.cons hgn hno (RT.get_set_same ob nx tr) hoth
       ·obtain⟨m,hbad⟩:=hbad h
        rw [hbad];exact trivial
    | true=>
     obtain⟨ρ1,w1,t1,C1,ord1,R1,hsub,hres1,hs1,hsteps,hD1⟩:=GO (CS:=CS) (k:=l) (rest:=rest) hP hm ho hact ord ρ w fr.tmps C R hg hs hres hD
     rw [←hfr] at hsteps
     refine .of_steps hsteps ?_
     have he:∀ x ∈ edgesOf o,x ∈ C1:=by
      cases hD1.topo with
      | cons ho2 hi he hr=>rw [ho] at ho2;cases ho2;exact he
     have hTm:=hD1.masked he
     have hw:=iO hTm hgu
     have hsus:=hD1.suspend ho hact
     have hb1:FBase P ρ1 fn ds dfr (fu fr t1 all (i::ord1) l):=(⟨hb.name,hb.fd,hb.kind,hb.round.mono hsub,hb.defers.mono hsub⟩)
     have cont:∀ ρ' h' w' v V,Sub ρ1 ρ'→Resv ρ' h' (R1++S)→Sim w0 ρ' h' w'→Rel ρ' v V→Reach P w0 f0 CS0 (lone ((fu fr t1 all (i::ord1) l).finish V) CS w') (putK T o.dst v (fun T=>stepPlan P all k (.mk fn ds dfr cs) rest T h')):=by
      intro ρ' h' w' v V hsub' hres' hs' hv
      rw [←hdo]
      refine dC fun hd=>?_
      rw [gj (fr:=fu fr t1 all (i::ord1) l) rfl,hdst]
      exact ih (i::A) (i::C1) ord1 ρ' h' w' _ _ R1 hs' hres' ((hg.mono hsub).mono hsub') ((hcs.mono hsub).mono hsub') ⟨hb.name,hb.fd,hb.kind,(hb.round.mono hsub).mono hsub',(hb.defers.mono hsub).mono hsub'⟩ hm rfl ((hsus.mono hsub').resume hd hv)
     cases b with
     | false=>exact .of_steps (.one (lm (fr:=fu fr t1 all (i::ord1) l) hm rfl ho' hw)) (cont ρ1 h w1 .undef Go.undef (Sub.refl _) hres1 hs1 .undef)
     | true=>exact ry hX hs1 hres1 (hg.mono hsub) hb1 hm rfl ho' hw (.dops hsus hk) (hcs.mono hsub) hbot (rF (mc hP hs1 (gi (hg.mono hsub) hTm) o)) ⟨_,.inr rfl⟩ cont
end
end Go.VM
namespace Go.VM
theorem Et{id:Nat}{k:List AItem}{l:List Item}(hk:KRel k l):∀ {k':List AItem},nz id k=some k'→∃ l',exitTo id l=some l'∧KRel k' l':=by
 induction hk with
 | nil=>intro k' h;cases h
 | cons hi hr ih=>
  rename_i a b k l
  intro k' h
  cases hi with
  | code c=>unfold exitTo;exact ih h
  | inLoop c=>unfold exitTo;exact ih h
  | inScope c=>unfold exitTo;exact ih h
  | beginRound=>unfold exitTo;exact ih h
  | inBlock j=>
   have h':cond (Nat.beq j id) (some k) (nz id k)=some k':=h
   unfold exitTo
   cases hb:Nat.beq j id with
   | true=>
    rw [hb] at h'
    have e:=Nat.eq_of_beq_eq_true hb
    subst e
    have:k=k':=by simpa using h'
    subst this
    exact⟨_,by simp,hr⟩
   | false=>
    rw [hb] at h'
    have hne:(j == id)=false:=by rw [beq_eq_false_iff_ne];intro e;subst e;simp at hb
    rw [hne]
    exact ih h'
theorem Eu{lb:Nat}{k:List AItem}{l:List Item}(hk:KRel k l):∀ {k':List AItem},cN lb k=some k'→∃ l',gotoIn lb l=some l'∧KRel k' l':=by
 induction hk with
 | nil=>intro k' h;simp [cN] at h
 | cons hi hr ih=>
  rename_i a b k l
  intro k' h
  cases hi with
  | code c=>unfold gotoIn;unfold cN at h;exact ih h
  | inLoop c=>unfold gotoIn;unfold cN at h;exact ih h
  | inBlock c=>unfold gotoIn;unfold cN at h;exact ih h
  | beginRound=>unfold gotoIn;unfold cN at h;exact ih h
  | inScope c=>
   unfold cN at h
   unfold gotoIn
   cases hf:findLabel c lb with
   | none=>rw [hf] at h;exact ih h
   | some r=>
    rw [hf] at h
    have:(.code r::.inScope c::k)=k':=by simpa using h
    subst this
    exact⟨_,rfl,.cons (.code r) (.cons (.inScope c) hr)⟩
theorem cW:∀ {l:List Nat},fU l=true→l.Nodup
 | [],_=>List.nodup_nil
 | i::r,h=>by
  unfold fU at h
  cases hb:elemN i r with
  | true=>rw [hb] at h;cases h
  | false=>
   rw [hb] at h
   exact List.nodup_cons.2 ⟨fun hm=>(by rw [aO.2 hm] at hb;cases hb),cW h⟩
theorem rz:∀ {ops:List Oper} {i d:Nat},aZ ops i=some d→d ∈ dZ ops
 | [],i,d,h=>by simp [aZ] at h
 | o::r,0,d,h=>by
  have:o.dst=some d:=by simpa [aZ] using h
  unfold dZ;rw [this];simp
 | o::r,i+1,d,h=>by
  have h':aZ r i=some d:=by simpa [aZ] using h
  have:=rz h'
  unfold dZ
  split
  ·exact List.mem_cons_of_mem _ this
  ·exact this
theorem BI:∀ {ops:List Oper},(dZ ops).Nodup→∀ i j d,aZ ops i=some d→aZ ops j=some d→i=j
 | [],_,i,j,d,h,_=>by simp [aZ] at h
 | o::r,hn,i,j,d,hi,hj=>by
  have hn':(dZ r).Nodup:=by
   unfold dZ at hn
   split at hn
   ·exact (List.nodup_cons.1 hn).2
   ·exact hn
  have key:o.dst=some d→∀ m,aZ r m=some d→False:=by
   intro hd m hm
   unfold dZ at hn
   rw [hd] at hn
   exact (List.nodup_cons.1 hn).1 (rz hm)
  cases i with
  | zero=>
   have hd:o.dst=some d:=by simpa [aZ] using hi
   cases j with
   | zero=>rfl
   | succ j=>exact (key hd j (by simpa [aZ] using hj)).elim
  | succ i=>
   cases j with
   | zero=>exact (key (by simpa [aZ] using hj) i (by simpa [aZ] using hi)).elim
   | succ j=>
    have:=BI hn' i j d (by simpa [aZ] using hi) (by simpa [aZ] using hj)
    omega
section
variable {P:Program} {w0:Base} {f0:Nat} {CS0:List Frame} [Hook]
omit [Hook] in
theorem yc{all:List Oper}{p:List PStep}(h:planOf P all=some p):cz P all (dL all []) [] p=true∧bQ 0 all=true∧(dZ all).Nodup:=by
 unfold planOf at h
 cases hg:tO P all (dL all []) (all.length+1) [] (lL all.length).reverse with
 | none=>simp [hg] at h
 | some q=>
  rw [hg] at h
  dsimp only at h
  cases hc:(cz P all (dL all []) [] q && bQ 0 all && fU (dZ all)) with
  | false=>rw [hc] at h;cases h
  | true=>
   rw [hc] at h
   have:q=p:=by simpa using h
   subst this
   simp only [Bool.and_eq_true] at hc
   exact⟨hc.1.1,hc.1.2,cW hc.2⟩
omit [Hook] in
theorem pq{ρ:Rho}{h:Heap}{w:World}{T:Slots}{fr:Frame}{CS:List Frame}{cs:List AFrame}{fn:Nat}{ds:List ADef}{dfr:FK}{f:Operand}{ps:Array Nat}{a b:Code}{k:List AItem}{l:List Item}{S:List (Nat × Key × AObj)}(_hnr:g9 dfr)(hbot:ge fn dfr cs=(f0,.normal))
  (hs:Sim w0 ρ h w) (hres:Resv ρ h S) (hg:Glob P ρ) (hcs:CsRel P CS0 ρ S cs CS) (hb:FBase P ρ fn ds dfr fr) (hrd:fr.roundOf=none) (hm:fr.mode=.run) (ht:fr.todo=.code (.rangeFunc f ps a b)::l) (hk:KRel k l) (hT:TRel ρ T fr.tmps):
  Reach P w0 f0 CS0 (lone fr CS w) (wZ P f ps.toList a b T k fn ds dfr cs h):=by
 obtain⟨t,nx⟩:=h
 unfold wZ
 dsimp only
 cases h1:t.get nx with
 | some _=>exact trivial
 | none=>
  cases h2:(t.set (.deferred []) nx).get (incr nx) with
  | some _=>exact trivial
  | none=>
   dsimp only
   have s1:Sim w0 (ρ.add nx ⟨w.heap.size,0,0⟩) ((Heap.mk t nx).put nx (.deferred [])) (w.alloc (.deferred (some []))):=hs.alloc (L:=⟨w.heap.size,0,0⟩) h1 rfl ⟨hs.new,[],.nil,rfl⟩
   have hn1:=hs.none_of_get (b:=nx) h1
   have k1:Kept ρ (Heap.mk t nx) (ρ.add nx ⟨w.heap.size,0,0⟩) ((Heap.mk t nx).put nx (.deferred [])):=eC h1
   have sub1:Sub ρ (ρ.add nx ⟨w.heap.size,0,0⟩):=Rho.sub_add hn1
   have hn2:=s1.none_of_get (b:=incr nx) h2
   have sub2:Sub (ρ.add nx ⟨w.heap.size,0,0⟩) ((ρ.add nx ⟨w.heap.size,0,0⟩).add (incr nx) ⟨w.heap.size+1,0,0⟩):=Rho.sub_add hn2
   have s2:Sim w0 ((ρ.add nx ⟨w.heap.size,0,0⟩).add (incr nx) ⟨w.heap.size+1,0,0⟩) (((Heap.mk t nx).put nx (.deferred [])).put (incr nx) (.loop .ready none fn T ps.toList a b nx)) ((w.alloc (.deferred (some []))).alloc (.loop { state:=.ready,pending:=none,fn:=fn,tmps:=fr.tmps,params:=ps,assign:=a,body:=b,defers:=w.heap.size })):=by
    refine s1.alloc (L:=⟨w.heap.size+1,0,0⟩) h2 (by simp) ⟨(by have:=s1.new;simpa using this),fr.tmps,⟨w.heap.size,0,0⟩,sub2 _ _ (Rho.add_same _ _ _),(hT.mono sub1).mono sub2,by simp⟩
   have hres2:Resv ((ρ.add nx ⟨w.heap.size,0,0⟩).add (incr nx) ⟨w.heap.size+1,0,0⟩) (((Heap.mk t nx).put nx (.deferred [])).put (incr nx) (.loop .ready none fn T ps.toList a b nx)) S:=(hres.kept k1).kept (eC h2)
   generalize hρ2:(ρ.add nx ⟨w.heap.size,0,0⟩).add (incr nx) ⟨w.heap.size+1,0,0⟩=ρ2 at *
   have hlk:ρ2 (incr nx)=some ⟨w.heap.size+1,0,0⟩:=by rw [←hρ2];exact Rho.add_same _ _ _
   have hdk:ρ2 nx=some ⟨w.heap.size,0,0⟩:=sub2 _ _ (Rho.add_same _ _ _)
   have sub:Sub ρ ρ2:=sub1.trans sub2
   have hrun:(Instr.enterLoop fr.fn fr.tmps ps a b none).run P w=.ok (w.heap.size+1,[{ target:=.collected w.heap.size,args:=#[] }]) ((w.alloc (.deferred (some []))).alloc (.loop { state:=.ready,pending:=none,fn:=fn,tmps:=fr.tmps,params:=ps,assign:=a,body:=b,defers:=w.heap.size })):=by
    rw [hb.name]
    simp [Instr.enterLoop]
   generalize hw2:(w.alloc (.deferred (some []))).alloc (.loop { state:=.ready,pending:=none,fn:=fn,tmps:=fr.tmps,params:=ps,assign:=a,body:=b,defers:=w.heap.size })=w2 at *
   unfold vP
   have hf:=gi (fr:=fr) hg hT f
   generalize ev P T f=fa at hf
   generalize hFe:fr.eval f=F at hf
   cases hf with
   | func g first cap A1 B1 hfi hca=>
    dsimp only
    cases hbd:bodyOf P g with
    | none=>exact trivial
    | some c=>
     dsimp only
     have hcall:(do let d ←Deferred.ofValue (fr.eval f) #[.func (.yield (w.heap.size+1)) #[] #[]];invoke d.target d.args:Sem Next).run P w2=.ok (.enter g ⟨A1++([.func (.yield (w.heap.size+1)) #[] #[]]++B1)⟩) w2:=by
      rw [hFe]
      have:=ee (P:=P) (w:=w2) (A:=A1++([.func (.yield (w.heap.size+1)) #[] #[]]++B1)) hbd
      simpa [Deferred.ofValue,invoke] using this
     refine .of_steps (.one (EK hm hrd ht hrun hcall)) ?_
     have hres2':Resv ρ2 (.mk ((t.set (.deferred []) nx).set (.loop .ready none fn T ps.toList a b nx) (incr nx)) (incr (incr nx))) ([]++S):=⟨hres2.nodup,hres2.none_,hres2.obj⟩
     refine enter_reach (dfr:=.normal) trivial ⟨s2.os,s2.out,s2.size,s2.old,s2.sub,s2.obj,s2.inj⟩ (S:=[]++S) hres2' (hg.mono sub) (.cons (.run ⟨hb.name,hb.fd,hb.kind,hb.round.mono sub,.cons _ _ _ _ (.mark nx _ hdk) (hb.defers.mono sub)⟩ hm (.range (L:=⟨w.heap.size+1,0,0⟩) (hT.mono sub) hlk hk)) (hcs.mono sub)) ?_ hbd hbot
     rw [cat_eq,cat_eq]
     exact (hfi.mono sub).append (.cons _ _ _ _ (.yield (incr nx) ⟨w.heap.size+1,0,0⟩ hlk) (hca.mono sub))
   | _=>exact trivial
theorem rA(hP:TypesOk P)(hX:Env P w0)(hF:P.follows .mixedOrders=true){CS:List Frame}{cs:List AFrame}{fn:Nat}{ds:List ADef}{dfr:FK}{S:List (Nat × Key × AObj)}(hbot:ge fn dfr cs=(f0,.normal)):
  ∀ (c:Code) (k:List AItem) (l:List Item) (ρ:Rho) (h:Heap) (w:World) (T:Slots) (fr:Frame),Sim w0 ρ h w→Resv ρ h S→Glob P ρ→CsRel P CS0 ρ S cs CS→FBase P ρ fn ds dfr fr→fr.mode=.run→fr.todo=.code c::l→KRel k l→TRel ρ T fr.tmps→
   Reach P w0 f0 CS0 (lone fr CS w) (eV P c T k (.mk fn ds dfr cs) h):=by
 intro c
 induction c with
 | skip=>
  intro k l ρ h w T fr hs hres hg hcs hb hm ht hk hT
  exact⟨_,.one (GH hm ht),ρ,_,CS,w,[],S,rfl,hs,hres,hg,⟨hb.name,hb.fd,hb.kind,hb.round,hb.defers⟩,hm,.plain hT hk,hcs,hbot⟩
 | region id ops draw=>
  intro k l ρ h w T fr hs hres hg hcs hb hm ht hk hT
  show Reach P w0 f0 CS0 _ (wY P id ops draw T k (.mk fn ds dfr cs) h)
  unfold wY
  cases draw with
  | false=>
   refine .of_steps (.one (DD hm ht)) ?_
   refine kK hP hX hk hbot ops.toList 0 ρ h w T _ (by simp) hs hres hg hcs ⟨hb.name,hb.fd,hb.kind,hb.round,hb.defers⟩ hm ?_ hT
   simp
  | true=>
   dsimp only
   unfold goPlan
   cases hp:planOf P ops.toList with
   | none=>exact trivial
   | some p=>
    obtain⟨h1,h2,h3⟩:=yc hp
    obtain⟨t,hst⟩:=GM (P:=P) (CS:=CS) (w:=w) hm ht
    rw [hF] at hst
    refine .of_steps (.one hst) ?_
    refine iH hP hX hk hbot p [] [] (Region.schedule true ops t) ρ h w.drew T _ [] hs.drew hres hg hcs ⟨hb.name,hb.fd,hb.kind,hb.round,hb.defers⟩ hm (by simp) ?_
    exact⟨h2,BI h3,h1,uq h2 t,fun i hi=>(by cases hi),fun i hi=>(by cases hi),fun i hi=>(by cases hi),fun i hi=>(by cases hi),fun i hi=>(by cases hi),fun i hi=>(by cases hi),hT.n,fun s _=>hT.at_ s,fun i hi=>(by cases hi)⟩
 | seq a b iha ihb=>
  intro k l ρ h w T fr hs hres hg hcs hb hm ht hk hT
  refine .of_steps (.one (I6 hm ht)) ?_
  exact iha (.code b::k) (.code b::l) ρ h w T _ hs hres hg hcs ⟨hb.name,hb.fd,hb.kind,hb.round,hb.defers⟩ hm rfl (.cons (.code b) hk) hT
 | cond x a b iha ihb=>
  intro k l ρ h w T fr hs hres hg hcs hb hm ht hk hT
  show Reach P w0 f0 CS0 _ (Bc P x a b (eV P a) (eV P b) T k (.mk fn ds dfr cs) h)
  unfold Bc
  have hx:=gi (fr:=fr) hg hT x
  generalize ev P T x=xa at hx
  generalize hX':fr.eval x=XV at hx
  cases hx with
  | bool t=>
   refine .of_steps (.one (GI hm ht hX')) ?_
   cases t with
   | true=>exact iha k l ρ h w T _ hs hres hg hcs ⟨hb.name,hb.fd,hb.kind,hb.round,hb.defers⟩ hm (by simp) hk hT
   | false=>exact ihb k l ρ h w T _ hs hres hg hcs ⟨hb.name,hb.fd,hb.kind,hb.round,hb.defers⟩ hm (by simp) hk hT
  | _=>exact trivial
 | block id a iha=>
  intro k l ρ h w T fr hs hres hg hcs hb hm ht hk hT
  refine .of_steps (.one (EF hm ht)) ?_
  exact iha (.inBlock id::k) (.inBlock id::l) ρ h w T _ hs hres hg hcs ⟨hb.name,hb.fd,hb.kind,hb.round,hb.defers⟩ hm rfl (.cons (.inBlock id) hk) hT
 | loop a iha=>
  intro k l ρ h w T fr hs hres hg hcs hb hm ht hk hT
  exact⟨_,.one (GJ hm ht),ρ,_,CS,w,[],S,rfl,hs,hres,hg,⟨hb.name,hb.fd,hb.kind,hb.round,hb.defers⟩,hm,.plain hT (.cons (.code a) (.cons (.inLoop a) hk)),hcs,hbot⟩
 | rangeFunc f ps a b iha ihb=>
  intro k l ρ h w T fr hs hres hg hcs hb hm ht hk hT
  have hrd:=hb.round
  cases dfr with
  | round l=>exact trivial
  | normal=>exact pq trivial hbot hs hres hg hcs hb hrd hm ht hk hT
  | deferred=>exact pq trivial hbot hs hres hg hcs hb hrd hm ht hk hT
 | exit id=>
  intro k l ρ h w T fr hs hres hg hcs hb hm ht hk hT
  show Reach P w0 f0 CS0 _ (oT (nz id k) T (.mk fn ds dfr cs) h)
  unfold oT
  cases he:nz id k with
  | none=>exact trivial
  | some k'=>
   obtain⟨l',hl',hk'⟩:=Et hk he
   exact⟨_,.one (GK hm ht hl'),ρ,_,CS,w,[],S,rfl,hs,hres,hg,⟨hb.name,hb.fd,hb.kind,hb.round,hb.defers⟩,hm,.plain hT hk',hcs,hbot⟩
 | scope a iha=>
  intro k l ρ h w T fr hs hres hg hcs hb hm ht hk hT
  exact⟨_,.one (EG hm ht),ρ,_,CS,w,[],S,rfl,hs,hres,hg,⟨hb.name,hb.fd,hb.kind,hb.round,hb.defers⟩,hm,.plain hT (.cons (.code a) (.cons (.inScope a) hk)),hcs,hbot⟩
 | label lb=>
  intro k l ρ h w T fr hs hres hg hcs hb hm ht hk hT
  exact⟨_,.one (EE hm ht),ρ,_,CS,w,[],S,rfl,hs,hres,hg,⟨hb.name,hb.fd,hb.kind,hb.round,hb.defers⟩,hm,.plain hT hk,hcs,hbot⟩
 | goto lb=>
  intro k l ρ h w T fr hs hres hg hcs hb hm ht hk hT
  show Reach P w0 f0 CS0 _ (oT (cN lb k) T (.mk fn ds dfr cs) h)
  unfold oT
  cases he:cN lb k with
  | none=>exact trivial
  | some k'=>
   obtain⟨l',hl',hk'⟩:=Eu hk he
   exact⟨_,.one (GL hm ht hl'),ρ,_,CS,w,[],S,rfl,hs,hres,hg,⟨hb.name,hb.fd,hb.kind,hb.round,hb.defers⟩,hm,.plain hT hk',hcs,hbot⟩
 | ret=>
  intro k l ρ h w T fr hs hres hg hcs hb hm ht hk hT
  have hrd:=hb.round
  cases dfr with
  | round l=>exact trivial
  | normal=>exact⟨_,.one (ED hm hrd ht),ρ,_,CS,w,S,rfl,hs,hres,hg,⟨hb.name,hb.fd,hb.kind,hb.round,hb.defers⟩,trivial,.returning,hT,hcs,hbot⟩
  | deferred=>exact⟨_,.one (ED hm hrd ht),ρ,_,CS,w,S,rfl,hs,hres,hg,⟨hb.name,hb.fd,hb.kind,hb.round,hb.defers⟩,trivial,.returning,hT,hcs,hbot⟩
 | refuse why=>
  intro k l ρ h w T fr hs hres hg hcs hb hm ht hk hT
  exact trivial
end
end Go.VM
