/- An evaluator of the model's code (a machine on abstract values), and lemmas on regions whose order is drawn. No conditions: a library text of the proof. -/
import Derived.Test.YtfkgfibmhhlemaaVC
import Derived.Orders
namespace Go.VM
inductive PStep where
  | op (i : Nat) | chk (i : Nat)
inductive AItem where
  | code (c : Code) | inBlock (id : Nat) | inLoop (c : Code) | inScope (c : Code)
  | ops (all : List Oper) (rest : List Oper)
  | dops (all : List Oper) (plan : List PStep)
  | inRange (l : Key) | endRange (l : Key) | beginRound
inductive FK where
  | normal | deferred | round (l : Key)
inductive AMode where
  | run | returning | panicking (chain : List (AV × Bool))
inductive AFrame where
  | mk (fn : Nat) (T : Slots) (k : List AItem) (ds : List ADef) (m : AMode) (fk : FK)
inductive Ctx where
  | mk (fn : Nat) (ds : List ADef) (fk : FK) (cs : List AFrame)
inductive St where
  | go (T : Slots) (k : List AItem) (c : Ctx) (h : Heap)
  | un (m : AMode) (T : Slots) (c : Ctx) (h : Heap)
  | done (v : AV) (h : Heap)
  | alt (l : List (AV × Heap)) (T : Slots) (k : List AItem) (c : Ctx)
  | bad (why : String)
/-- which functions are taken by their contracts (1 an index of a text, 2 whether it is there, 3 'it answers true'), and which are entries of the model's table -/
class Hook where
  sums : Nat → Nat
  exts : Nat → Nat
def sumKind [H : Hook] (f : Nat) : Nat := H.sums f
def extKind [H : Hook] (f : Nat) : Nat := H.exts f
section
variable (P : Program)
noncomputable def setSlots (args : List AV) : RT AV → Nat → RT AV := List.rec (motive := fun _ => RT AV → Nat → RT AV) (fun T _ => T) (fun v _ ih T i => ih (T.set v (keyOf i)) (Nat.succ i)) args
noncomputable def undefs (n : Nat) : RT AV → RT AV := Nat.rec (motive := fun _ => RT AV → RT AV) (fun t => t) (fun m ih t => ih (t.set .undef (keyOf m))) n
def fnOf (f : Nat) : Option Func := match P.funcs[f]? with
  | some fn => if fn.name == "runtime.NumGoroutine" then none else some fn
  | none => none
def bodyOf (f : Nat) : Option Code := (fnOf P f).bind (·.body)
def ntmpsOf (f : Nat) : Nat := ((fnOf P f).map (·.ntmps)).getD 0
def nameOf (f : Nat) : String := ((fnOf P f).map (·.name)).getD ""
def resultsOf (f : Nat) : List ResultVar := ((fnOf P f).map (·.results.toList)).getD []
noncomputable def enter (f : Nat) (args : List AV) (dfr : FK) (cs : List AFrame) (h : Heap) (c : Code) : St :=
  cond (Nat.ble (len args) (ntmpsOf P f)) (.go (.mk (ntmpsOf P f) (setSlots args .nil 0)) [.code c] (.mk f [] dfr cs) h) (.bad "enter")
noncomputable def exitToA (id : Nat) (k : List AItem) : Option (List AItem) := List.rec (motive := fun _ => Option (List AItem)) none
  (fun it r ih => AItem.casesOn (motive := fun _ => Option (List AItem)) it (fun _ => ih) (fun i => cond (Nat.beq i id) (some r) ih) (fun _ => ih) (fun _ => ih) (fun _ _ => ih) (fun _ _ => ih) (fun _ => ih) (fun _ => ih) ih) k
noncomputable def gotoInA (l : Nat) : List AItem → Option (List AItem)
  | .inScope body :: k => match findLabel body l with
    | some r => some (.code r :: .inScope body :: k)
    | none => gotoInA l k
  | _ :: k => gotoInA l k
  | [] => none
noncomputable def putIn (n : Nat) (t : RT AV) (d : Nat) (v : AV) (k : Slots → St) : St := cond (Nat.blt d n) (k (.mk n (t.set v (keyOf d)))) (.bad "slot")
noncomputable def putK (T : Slots) (d : Option Nat) (v : AV) (k : Slots → St) : St := Option.rec (motive := fun _ => St) (k T) (fun d => Slots.rec (motive := fun _ => St) (fun n t => putIn n t d v k) T) d
noncomputable def operAt (all : List Oper) (i : Nat) : Option Oper := hd (drop i all)
noncomputable def dstAt (all : List Oper) (i : Nat) : Option Nat := (operAt all i).bind (·.dst)
noncomputable def finish (c : AFrame) (v : AV) (cs : List AFrame) (h : Heap) : St := match c with
  | .mk fn T k ds _ dfr => (match k with
    | .ops all (o :: rest) :: k => putK T o.dst v (fun T => .go T (.ops all rest :: k) (.mk fn ds dfr cs) h)
    | .dops all (.op i :: plan) :: k => putK T (dstAt all i) v (fun T => .go T (.dops all plan :: k) (.mk fn ds dfr cs) h)
    | .inRange l :: k => .go T (.endRange l :: k) (.mk fn ds dfr cs) h
    | _ => .bad "finish")
noncomputable def resultsA (h : Heap) (T : Slots) : List ResultVar → Option (List AV)
  | [] => some []
  | .tmp t :: rs => (match resultsA h T rs with
    | some vs => some (T.get t :: vs)
    | _ => none)
  | .cell a t :: rs => (match T.get a with
    | .ptr b off => (match (cond (isAggT P t) ((cellsAt h b off (szOf P t)).map .agg) (cond (known P t) (cellAt h b off) none)), resultsA h T rs with
      | some v, some vs => some (v :: vs)
      | _, _ => none)
    | _ => none)
noncomputable def guardV (v : AV) (b : Bool) : Option Bool := match v with
  | .bool x => some (x == b)
  | .undef => some false
  | _ => none
noncomputable def guardA (g : Option (Nat × Bool)) (all : List Oper) (T : Slots) : Option Bool := Option.rec (motive := fun _ => Option Bool) (some true)
  (fun g => Option.rec (motive := fun _ => Option Bool) none (fun d => guardV (T.get d) g.2) (dstAt all g.1)) g
/-- the place of the first byte that is so, plus one; or nothing -/
def ixByte : Nat → Nat → Nat → Nat → Nat
  | 0, _, _, _ => 0
  | n + 1, c, k, i => cond (Nat.beq (Nat.mod k 256) c) (i + 1) (ixByte n c (k / 256) (i + 1))
def ixInt (n : Nat) : AV := match n with
  | 0 => .int .i64 (-1)
  | n + 1 => .int .i64 (Int.ofNat n)
def ixBool (n : Nat) : AV := match n with
  | 0 => .bool false
  | _ + 1 => .bool true
noncomputable def noZero (e : Option TypeDesc) (n : Nat) (h : Heap) : Res := match e with
  | some (.slice e) => cond (Nat.ble n 1000000) (h.alloc (.cells e (rep n [.junk]) true 0) (fun b h => .val (.slice b 0 n (.more 1)) h)) (.bad "MakeNoZero")
  | _ => .bad "MakeNoZero"
noncomputable def noZeroT (ts : List Nat) (n : Nat) (h : Heap) : Res := match ts with
  | [t] => noZero (P.underlying t) n h
  | _ => .bad "MakeNoZero"
noncomputable def externK (k : Nat) (fd : Func) (args : List AV) (h : Heap) : Res := match k with
  | 1 => (match args with
    | [.float .f64 b] => .val (.int .u64 (Int.ofNat b)) h
    | _ => .bad "Float64bits")
  | 2 => (match args with
    | [.int .u64 (.ofNat b)] => .val (.float .f64 b) h
    | _ => .bad "Float64frombits")
  | 3 => (match args with | [x] => .val x h | _ => .bad "NoEscape")
  | 4 => (match args with
    | [.str l c, .int .u8 (.ofNat b)] => cond (Nat.blt b 256) (forceN (ixByte l b c 0) (fun n => .val (ixInt n) h)) (.bad "IndexByteString")
    | _ => .bad "IndexByteString")
  | 5 => (match args with
    | [.int .i64 (.ofNat n)] => noZeroT P fd.resultTypes.toList n h
    | _ => .bad "MakeNoZero")
  | 6 => (match args with
    | [.float .f64 b] => scalV (semPure P (Extern.MathFloor.toIntegral "math.archTrunc" .zero #[.float .f64 b])) h "archTrunc"
    | _ => .bad "archTrunc")
  | _ => .bad "entry"
noncomputable def extA [Hook] (f : Nat) (fd : Func) (args : List AV) (h : Heap) : Res := externK P (extKind f) fd args h
noncomputable def doRecoverD (fr : AFrame) (cs : List AFrame) (h : Heap) : St := match cs with
    | .mk fn T k ds m fk' :: cs => (match m with
      | .panicking ((v, false) :: older) => finish fr v (.mk fn T k ds (.panicking ((v, true) :: older)) fk' :: cs) h
      | m => finish fr .nilIface (.mk fn T k ds m fk' :: cs) h)
    | [] => .bad "recover"
noncomputable def doRecover (fr : AFrame) (fk : FK) (cs : List AFrame) (h : Heap) : St := match fk with
  | .normal => finish fr .nilIface cs h
  | .deferred => doRecoverD fr cs h
  | .round _ => .bad "recover in a round"
noncomputable def doExtern [Hook] (f : Nat) (args : List AV) (fr : AFrame) (cs : List AFrame) (h : Heap) : St := match fnOf P f with
  | some fd => (match extA P f fd args h with
    | .val v h => finish fr v cs h
    | .bad w => .bad w
    | _ => .bad "entry")
  | none => .bad "entry"
/-! functions that are taken by their contracts -/
/-- the first place of a text in a text: the place plus one, or nothing -/
def ixStr : Nat → Nat → Nat → Nat → Nat → Nat
  | 0, sl, _, _, i => cond (Nat.beq sl 0) (i + 1) 0
  | n + 1, sl, sc, k, i => cond (Nat.blt (n + 1) sl) 0 (cond (Nat.beq (Nat.mod k (2 ^ (8 * sl))) sc) (i + 1) (ixStr n sl sc (k / 256) (i + 1)))
noncomputable def sumIx (v : Nat → AV) (args : List AV) (h : Heap) : Option (AV × Heap) := match args with
  | [.str l c, .str sl sc] => cond (Nat.ble l 1000000) (forceN (ixStr l sl sc c 0) (fun n => some (v n, h))) none
  | _ => none
noncomputable def sumA (k : Nat) (args : List AV) (h : Heap) : Option (AV × Heap) := match k with
  | 1 => sumIx ixInt args h
  | 2 => sumIx ixBool args h
  | 3 => (match args with | [] => some (.bool true, h) | _ => none)
  | _ => none
noncomputable def enterOr0 [Hook] (f : Nat) (args : List AV) (fr : AFrame) (cs : List AFrame) (h : Heap) : St := Option.rec (motive := fun _ => St)
  (doExtern P f args fr cs h) (enter P f args .normal (fr :: cs) h) (bodyOf P f)
noncomputable def enterSum [Hook] (f : Nat) (args : List AV) (fr : AFrame) (cs : List AFrame) (h : Heap) (x : Option (AV × Heap)) : St := match x with
  | some (v, h') => finish fr v cs h'
  | none => enterOr0 P f args fr cs h
noncomputable def enterK [Hook] (k f : Nat) (args : List AV) (fr : AFrame) (cs : List AFrame) (h : Heap) : St := match k with
  | 0 => enterOr0 P f args fr cs h
  | k + 1 => enterSum P f args fr cs h (sumA (k + 1) args h)
noncomputable def enterOr [Hook] (f : Nat) (args : List AV) (fr : AFrame) (cs : List AFrame) (h : Heap) : St := enterK P (sumKind f) f args fr cs h
noncomputable def frOf (T : Slots) (k : List AItem) (c : Ctx) (j : AFrame → List AFrame → FK → St) : St := Ctx.rec (motive := fun _ => St) (fun fn ds dfr cs => j (.mk fn T k ds .run dfr) cs dfr) c
noncomputable def uEnter [Hook] (f : Nat) (args : List AV) (h : Heap) (T : Slots) (k : List AItem) (c : Ctx) : St := frOf T k c (fun fr cs _ => enterOr P f args fr cs h)
noncomputable def uRecover (h : Heap) (T : Slots) (k : List AItem) (c : Ctx) : St := frOf T k c (fun fr cs dfr => doRecover fr dfr cs h)
noncomputable def scrubT : List Oper → RT AV → RT AV
  | [], t => t
  | o :: r, t => scrubT r (match o.dst with | some d => t.set .junk (keyOf d) | none => t)
noncomputable def scrub (k : List AItem) (T : Slots) : Slots := match k, T with
  | .dops all _ :: _, .mk n t => .mk n (scrubT all t)
  | _, T => T
noncomputable def noRound (c : Ctx) (s : St) : St := match c with
  | .mk _ _ fk _ => (match fk with | .round _ => .bad "in a round" | _ => s)
noncomputable def uPan (v : AV) (h : Heap) (T : Slots) (k : List AItem) (c : Ctx) : St := noRound c (.un (.panicking [(v, false)]) (scrub k T) c h)
noncomputable def uBad (w : String) (_ : Slots) (_ : List AItem) (_ : Ctx) : St := .bad w
noncomputable def uDefer (d : ADef) (h : Heap) (T : Slots) (k : List AItem) (c : Ctx) : St := noRound c (frOf T k c (fun fr cs _ => match fr with
  | .mk fn T k ds m dfr => finish (.mk fn T k (d :: ds) m dfr) .undef cs h))
noncomputable def putAll : List Nat → List AV → Slots → Option Slots
  | [], [], T => some T
  | t :: ts, v :: vs, .mk n r => cond (Nat.blt t n) (putAll ts vs (.mk n (r.set v (keyOf t)))) none
  | _, _, _ => none
noncomputable def startRound (l : Key) (args : List AV) (fr : AFrame) (cs : List AFrame) (h : Heap) : St := match h.get l with
  | some (.loop _ _ fn tm ps a b _) => (match putAll ps args tm, fnOf P fn with
    | some T, some _ => .go T [.code a, .beginRound, .code b] (.mk fn [] (.round l) (fr :: cs)) h
    | _, _ => .bad "yield")
  | _ => .bad "yield"
noncomputable def uRound (l : Key) (args : List AV) (h : Heap) (T : Slots) (k : List AItem) (c : Ctx) : St := frOf T k c (fun fr cs _ => startRound P l args fr cs h)
noncomputable def upon [Hook] (r : Res) (T : Slots) (k : List AItem) (c : Ctx) (next : AV → Heap → St) : St :=
  Res.casesOn (motive := fun _ => St) r next
    (fun f args h => uEnter P f args h T k c) (fun l args h => uRound P l args h T k c) (fun d h => uDefer d h T k c) (fun h => uRecover h T k c) (fun v h => uPan v h T k c) (fun l => .alt l T k c) (fun w => uBad w T k c)
noncomputable def oneOp [Hook] (o : Oper) (it : AItem) (k : List AItem) (c : Ctx) (Tm T : Slots) (h : Heap) (ih : Slots → Heap → St) (g : Option Bool) : St :=
  Option.rec (motive := fun _ => St) (.bad "guard") (fun g => Bool.rec (motive := fun _ => St) (putK T o.dst .undef (fun T => ih T h)) (upon P (execA P o.op Tm h) T (it :: k) c (fun v h => putK T o.dst v (fun T => ih T h))) g) g
noncomputable def stepOps [Hook] (all : List Oper) (k : List AItem) (c : Ctx) (rest : List Oper) : Slots → Heap → St :=
  List.rec (motive := fun _ => Slots → Heap → St) (fun T h => .go T k c h) (fun o rest ih T h => oneOp P o (.ops all (o :: rest)) k c T T h ih (guardA o.guard all T)) rest
def beqL (rc : AV → AV → Bool) : List AV → List AV → Bool
    | [], [] => true
    | a :: x, b :: y => and (rc a b) (beqL rc x y)
    | _, _ => false
def beqCap : ACap → ACap → Bool
  | .is x, .is y => Nat.beq x y
  | .more x, .more y => Nat.beq x y
  | _, _ => false
def beqA : Nat → AV → AV → Bool
  | 0, _, _ => false
  | d + 1, x, y => match x with
    | .bool a => (match y with | .bool b => a == b | _ => false)
    | .int k a => (match y with | .int k' b => and (Nat.beq (kindNo k) (kindNo k')) (intEq a b) | _ => false)
    | .float .f64 a => (match y with | .float .f64 b => Nat.beq a b | _ => false)
    | .str l a => (match y with | .str m b => and (Nat.beq l m) (Nat.beq a b) | _ => false)
    | .nilPtr => (match y with | .nilPtr => true | _ => false)
    | .ptr a o => (match y with | .ptr b q => and (Key.same a b) (Nat.beq o q) | _ => false)
    | .nilSlice => (match y with | .nilSlice => true | _ => false)
    | .slice a o l c => (match y with | .slice b q m e => and (and (Key.same a b) (Nat.beq o q)) (and (Nat.beq l m) (beqCap c e)) | _ => false)
    | .nilMap => (match y with | .nilMap => true | _ => false)
    | .map a => (match y with | .map b => Key.same a b | _ => false)
    | .nilFunc => (match y with | .nilFunc => true | _ => false)
    | .nilIface => (match y with | .nilIface => true | _ => false)
    | .iface t a => (match y with | .iface u b => and (Nat.beq t u) (beqA d a b) | _ => false)
    | .func (.func f) a b => (match y with | .func (.func g) x y => and (Nat.beq f g) (and (beqL (beqA d) a x) (beqL (beqA d) b y)) | _ => false)
    | .agg a => (match y with | .agg b => beqL (beqA d) a b | _ => false)
    | .tup a => (match y with | .tup b => beqL (beqA d) a b | _ => false)
    | .undef => (match y with | .undef => true | _ => false)
    | _ => false
/-! a region whose order is drawn -/
/-- operations that only make a new object, whatever the heap -/
def makeOp (o : Op) : Bool := match o with
  | .alloc _ | .box .. | .makeMap .. | .buildSlice .. | .makeSlice .. => true
  | _ => false
def acts (o : Op) : Bool := match o with   -- neither only reckons nor only reads nor only makes
  | .alloc _ | .box .. | .makeMap .. | .buildSlice .. | .makeSlice .. => false
  | .move _ | .pick .. | .build .. | .fieldAddr .. | .field .. | .unOp .. | .makeInterface .. | .makeFunc .. | .extract .. | .nilCheck _ | .index .. | .indexAddr .. | .slice .. | .typeAssert .. | .binOp .. => false
  | .convert src dst _ => (match P.underlying src, P.underlying dst with | _, some (.slice _) => true | _, _ => false)
  | .load .. | .lookup .. => false
  | .call { callee := .builtin .len, .. } => false
  | .call { callee := .builtin .min, .. } | .call { callee := .builtin .max, .. } | .call { callee := .builtin .cap, .. } => false
  | _ => true
def bindsE (e : Edge) : Bool := match e.ground with | .textOnly _ | .gcOnly _ => false | _ => true
def edgesL : List Edge → List Nat
  | [] => []
  | e :: r => cond (bindsE e) (e.on :: edgesL r) (edgesL r)
def edgesOf (o : Oper) : List Nat := edgesL o.after.toList
def elemN (i : Nat) : List Nat → Bool
  | [] => false
  | j :: r => cond (Nat.beq i j) true (elemN i r)
def ancOf (acc : List (List Nat)) : List Nat → List Nat
  | [] => []
  | j :: r => j :: cat (acc.getD j []) (ancOf acc r)
def ancs : List Oper → List (List Nat) → List (List Nat)   -- the ancestors, op by op
  | [], acc => acc
  | o :: r, acc => ancs r (cat acc [ancOf acc (edgesOf o)])
def allIn (l A : List Nat) : Bool := match l with
  | [] => true
  | i :: r => cond (elemN i A) (allIn r A) false
def upTo : Nat → List Nat
  | 0 => []
  | n + 1 => n :: upTo n
def minusN (l A : List Nat) : List Nat := match l with
  | [] => []
  | i :: r => cond (elemN i A) (minusN r A) (i :: minusN r A)
def actAt (all : List Oper) (i : Nat) : Bool := match all[i]? with | some o => acts P o.op | none => true
def makeAt (all : List Oper) (i : Nat) : Bool := match all[i]? with | some o => makeOp o.op | none => false
def anchAt (an : List (List Nat)) (i : Nat) : List Nat := an.getD i []
/-- an acting operation: every other that is left hangs on it -/
def restHangs (an : List (List Nat)) (i : Nat) : List Nat → Bool
  | [] => true
  | x :: r => cond (cond (Nat.beq x i) true (elemN i (anchAt an x))) (restHangs an i r) false
def chkRun : List PStep → List Nat
  | .chk j :: r => j :: chkRun r
  | _ => []
/-- is every operation that only reckons or reads, is done here, and need not be done there, asked again? -/
def asked (all : List Oper) (an : List Nat) (ch : List Nat) : List Nat → Bool
  | [] => true
  | j :: r => cond (cond (or (actAt P all j) (makeAt all j)) true (cond (elemN j an) true (elemN j ch))) (asked all an ch r) false
def planOk (all : List Oper) (an : List (List Nat)) : List Nat → List PStep → Bool
  | A, [] => allIn (upTo all.length) A
  | A, .chk j :: r => cond (makeAt all j) false (planOk all an A r)
  | A, .op i :: r => match all[i]? with
    | none => false
    | some o => cond (and (not (elemN i A)) (allIn (edgesOf o) A)) (cond (cond (acts P o.op) (and (restHangs an i (minusN (upTo all.length) A)) (asked P all (anchAt an i) (chkRun r) A)) (cond (makeOp o.op) (asked P all [] (chkRun r) A) true)) (planOk all an (i :: A) r) false) false
def fwdFrom (i : Nat) : List Oper → Bool
  | [] => true
  | o :: r => cond ((edgesOf o).all fun j => Nat.blt j i) (fwdFrom (i + 1) r) false
def dstsOf : List Oper → List Nat
  | [] => []
  | o :: r => match o.dst with | some d => d :: dstsOf r | none => dstsOf r
def nodupN : List Nat → Bool
  | [] => true
  | i :: r => cond (elemN i r) false (nodupN r)
def kindP (o : Op) : Nat := cond (makeOp o) 0 (cond (acts P o) 2 1)
def pickReady (act : Nat) (A : List Nat) (all : List Oper) : List Nat → Option Nat
  | [] => none
  | i :: r => match all[i]? with
    | none => none
    | some o => cond (and (Nat.beq act (kindP P o.op)) (allIn (edgesOf o) A)) (some i) (pickReady act A all r)
def chksFor (all : List Oper) (an : List Nat) : List Nat → List PStep → List PStep
  | [], t => t
  | j :: r, t => chksFor all an r (cond (or (or (actAt P all j) (makeAt all j)) (elemN j an)) t (.chk j :: t))
def planGo (all : List Oper) (an : List (List Nat)) : Nat → List Nat → List Nat → Option (List PStep)
  | 0, _, _ => none
  | fuel + 1, A, rem => match rem with
    | [] => some []
    | _ :: _ => match pickReady P 0 A all rem with
      | some i => (planGo all an fuel (i :: A) (minusN rem [i])).map fun t => .op i :: chksFor P all [] A t
      | none => match pickReady P 1 A all rem with
        | some i => (planGo all an fuel (i :: A) (minusN rem [i])).map (.op i :: ·)
        | none => match pickReady P 2 A all rem with
          | some i => (planGo all an fuel (i :: A) (minusN rem [i])).map fun t => .op i :: chksFor P all (anchAt an i) A t
          | none => none
def planOf (all : List Oper) : Option (List PStep) :=
  match planGo P all (ancs all []) (all.length + 1) [] (upTo all.length).reverse with
  | some p => cond (and (and (planOk P all (ancs all []) [] p) (fwdFrom 0 all)) (nodupN (dstsOf all))) (some p) none
  | none => none
noncomputable def maskGo (es : List Nat) : Nat → List Oper → RT AV → RT AV
  | _, [], t => t
  | i, o :: r, t => maskGo es (i + 1) r (cond (elemN i es) t (match o.dst with | some d => t.set .junk (keyOf d) | none => t))
noncomputable def maskT (es : List Nat) (all : List Oper) (T : Slots) : Slots := Slots.rec (motive := fun _ => Slots) (fun n t => .mk n (maskGo es 0 all t)) T
noncomputable def opM [Hook] (o : Oper) (it : AItem) (all : List Oper) (k : List AItem) (c : Ctx) (T : Slots) (h : Heap) (ih : Slots → Heap → St) (Tm : Slots) : St := oneOp P o it k c Tm T h ih (guardA o.guard all Tm)
noncomputable def opD [Hook] (i : Nat) (rest : List PStep) (all : List Oper) (k : List AItem) (c : Ctx) (T : Slots) (h : Heap) (ih : Slots → Heap → St) : St :=
  Option.rec (motive := fun _ => St) (.bad "plan") (fun o => opM P o (.dops all (.op i :: rest)) all k c T h ih (maskT (edgesOf o) all T)) (operAt all i)
noncomputable def same (r : Res) (v : AV) : Bool := match r with | .val x _ => beqA 60 x v | _ => false
noncomputable def chkG (o : Oper) (T : Slots) (h : Heap) (Tm : Slots) (d : Nat) (g : Option Bool) : Bool := match g with
  | some true => same (execA P o.op Tm h) (T.get d)
  | some false => (match T.get d with | .undef => true | _ => false)
  | none => false
noncomputable def chkO (o : Oper) (all : List Oper) (T : Slots) (h : Heap) : Bool := match o.dst with
  | some d => chkG P o T h (maskT (edgesOf o) all T) d (guardA o.guard all (maskT (edgesOf o) all T))
  | none => false
noncomputable def chkD (i : Nat) (all : List Oper) (T : Slots) (h : Heap) (ih : Slots → Heap → St) : St :=
  Option.rec (motive := fun _ => St) (.bad "plan") (fun o => cond (chkO P o all T h) (ih T h) (.bad "an order that matters")) (operAt all i)
noncomputable def stepPlan [Hook] (all : List Oper) (k : List AItem) (c : Ctx) (plan : List PStep) : Slots → Heap → St :=
  List.rec (motive := fun _ => Slots → Heap → St) (fun T h => .go T k c h) (fun s rest ih T h => PStep.casesOn (motive := fun _ => St) s (fun i => opD P i rest all k c T h ih) (fun i => chkD P i all T h ih)) plan
abbrev SF := Slots → List AItem → Ctx → Heap → St
noncomputable def jumpTo (k' : Option (List AItem)) (T : Slots) (c : Ctx) (h : Heap) : St :=
  Option.rec (motive := fun _ => St) (.bad "exit: no such block") (fun k => .go T k c h) k'
noncomputable def sSkip : SF := fun T k c h => .go T k c h
noncomputable def goPlan [Hook] (p : Option (List PStep)) (all : List Oper) : SF := fun T k c h => Option.rec (motive := fun _ => St) (.bad "no plan") (fun p => stepPlan P all k c p T h) p
noncomputable def sRegion [Hook] (_ : Nat) (ops : Array Oper) (draw : Bool) : SF := fun T k c h => Bool.rec (motive := fun _ => St) (stepOps P ops.toList k c ops.toList T h) (goPlan P (planOf P ops.toList) ops.toList T k c h) draw
noncomputable def sExit (id : Nat) : SF := fun T k c h => jumpTo (exitToA id k) T c h
noncomputable def sGoto (l : Nat) : SF := fun T k c h => jumpTo (gotoInA l k) T c h
noncomputable def sRet : SF := fun T _ c h => noRound c (.un .returning T c h)
noncomputable def sRefuse (w : String) : SF := fun _ _ _ _ => .bad w
noncomputable def sLabel (_ : Nat) : SF := sSkip
noncomputable def sSeq (_ b : Code) (a : SF) (_ : SF) : SF := fun T k c h => a T (.code b :: k) c h
noncomputable def sCond' (x : Operand) (_ _ : Code) (a b : SF) : SF := fun T k c h => match ev P T x with
  | .bool t => Bool.rec (motive := fun _ => St) (b T k c h) (a T k c h) t
  | _ => .bad "cond"
noncomputable def sBlock (id : Nat) (_ : Code) (b : SF) : SF := fun T k c h => b T (.inBlock id :: k) c h
noncomputable def sLoop (b : Code) (_ : SF) : SF := fun T k c h => .go T (.code b :: .inLoop b :: k) c h
noncomputable def sScope (b : Code) (_ : SF) : SF := fun T k c h => .go T (.code b :: .inScope b :: k) c h
noncomputable def rangeCall (f : AV) (lk : Key) (fr : AFrame) (cs : List AFrame) (h : Heap) : St := match f with
  | .func (.func g) first cap => (match bodyOf P g with
    | some c => enter P g (cat first (cat [.func (.yield lk) [] []] cap)) .normal (fr :: cs) h c
    | none => .bad "rangeFunc entry")
  | _ => .bad "rangeFunc"
noncomputable def rangeIn (f : Operand) (ps : List Nat) (a b : Code) (T : Slots) (k : List AItem) (fn : Nat) (ds : List ADef) (fk : FK) (cs : List AFrame) (h : Heap) : St := match h with
  | .mk t nx => (match t.get nx, (t.set (.deferred []) nx).get (incr nx) with
    | none, none => rangeCall P (ev P T f) (incr nx) (.mk fn T (.inRange (incr nx) :: k) (⟨.yield nx, [], []⟩ :: ds) .run fk) cs (.mk ((t.set (.deferred []) nx).set (.loop .ready none fn T ps a b nx) (incr nx)) (incr (incr nx)))
    | _, _ => .bad "key")
noncomputable def sRange (f : Operand) (ps : Array Nat) (a b : Code) (_ _ : SF) : SF := fun T k c h => match c with
  | .mk fn ds fk cs => noRound c (rangeIn P f ps.toList a b T k fn ds fk cs h)
noncomputable def stepCode [Hook] (c : Code) : SF := Code.rec (motive := fun _ => SF) sSkip (sRegion P) sSeq (sCond' P) sBlock sLoop (sRange P) sExit sScope sLabel sGoto sRet sRefuse c
noncomputable def iBlock (_ : Nat) : SF := sSkip
noncomputable def iLoop (b : Code) : SF := fun T k c h => .go T (.code b :: .inLoop b :: k) c h
noncomputable def iScope (_ : Code) : SF := sSkip
noncomputable def iOps [Hook] (all rest : List Oper) : SF := fun T k c h => stepOps P all k c rest T h
noncomputable def iDops [Hook] (all : List Oper) (plan : List PStep) : SF := fun T k c h => stepPlan P all k c plan T h
noncomputable def beginR : SF := fun T k c h => match c with
  | .mk _ _ fk _ => (match fk with
    | .round l => (match h.get l with
      | some (.loop .ready p f tm ps a b d) => .go T k c (h.put l (.loop .busy p f tm ps a b d))
      | _ => .bad "beginRound")
    | _ => .bad "beginRound")
noncomputable def endR (l : Key) : SF := fun T k c h => match h.get l with
  | some (.loop .ready none f tm ps a b d) => .go T k c (h.put l (.loop .exhausted none f tm ps a b d))
  | _ => .bad "endLoop"
noncomputable def iRange (_ : Key) : SF := fun _ _ _ _ => .bad "inRange"
noncomputable def stepItem [Hook] (it : AItem) : SF :=
  AItem.casesOn (motive := fun _ => SF) it (stepCode P) iBlock iLoop iScope (iOps P) (iDops P) iRange endR beginR
noncomputable def leave (T : Slots) (c : Ctx) (h : Heap) : St := match c with
  | .mk fn ds fk cs => (match fk with
    | .round l => (match h.get l, cs with
      | some (.loop _ _ f tm ps a b d), c :: cs => finish c (.bool true) cs (h.put l (.loop .ready none f tm ps a b d))
      | _, _ => .bad "endRound")
    | fk => .un .returning T (.mk fn ds fk cs) h)
noncomputable def stepGo [Hook] (T : Slots) (k : List AItem) (c : Ctx) (h : Heap) : St :=
  List.rec (motive := fun _ => St) (leave T c h) (fun it k _ => stepItem P it T k c h) k
noncomputable def settle (m : AMode) : AMode := match m with
  | .panicking ((_, true) :: _) => .returning
  | m => m
noncomputable def retD (cs : List AFrame) (h : Heap) : St := match cs with
  | [] => .bad "return"
  | .mk fn T _ ds m fk' :: cs => (match settle m with
      | .run => .bad "deferred into a running frame"
      | m => .un m T (.mk fn ds fk' cs) h)
noncomputable def retN (v : AV) (cs : List AFrame) (h : Heap) : St := match cs with
  | [] => .done v h
  | fr :: cs => finish fr v cs h
noncomputable def retTo (v : AV) (fk : FK) (cs : List AFrame) (h : Heap) : St := match fk with
  | .normal => retN v cs h
  | .deferred => retD cs h
  | .round _ => .bad "return of a round"
noncomputable def unDefer (d : ADef) (m : AMode) (T : Slots) (fn : Nat) (ds : List ADef) (dfr : FK) (cs : List AFrame) (h : Heap) : St := match d with
  | ⟨g, cap, args⟩ => (match g with
    | .yield b => (match h.get b with
      | some (.deferred []) => .un m T (.mk fn ds dfr cs) (h.put b .dead)
      | _ => .bad "deferred of rounds")
    | .func g => (match bodyOf P g with
      | some c => enter P g (cat args cap) .deferred (.mk fn T [] ds m dfr :: cs) h c
      | none => .bad "deferred entry"))
noncomputable def unPanic (chain : List (AV × Bool)) (cs : List AFrame) (h : Heap) : St := match cs with
      | .mk fn T k ds m' fk' :: cs => noRound (.mk fn ds fk' cs) (.un (match m' with | .panicking o => .panicking (cat chain o) | _ => .panicking chain) (scrub k T) (.mk fn ds fk' cs) h)
      | [] => .bad "panicked out"
noncomputable def unRet (T : Slots) (fn : Nat) (dfr : FK) (cs : List AFrame) (h : Heap) : St := match resultsA P h T (resultsOf P fn) with
      | none => .bad "results"
      | some [v] => retTo v dfr cs h
      | some vs => retTo (.tup vs) dfr cs h
noncomputable def stepUn (m : AMode) (T : Slots) (c : Ctx) (h : Heap) : St := match c with
  | .mk fn ds dfr cs => (match ds with
    | d :: ds => unDefer P d m T fn ds dfr cs h
    | [] => (match m with
      | .run => .bad "unwind"
      | .panicking chain => unPanic chain cs h
      | .returning => unRet P T fn dfr cs h))
noncomputable def altOne (T : Slots) (k : List AItem) (c : Ctx) (v : AV) (h : Heap) : St := frOf T k c (fun fr cs _ => finish fr v cs h)
noncomputable def altAll (ih : St → Bool) (T : Slots) (k : List AItem) (c : Ctx) (l : List (AV × Heap)) : Bool := List.rec (motive := fun _ => Bool) true (fun p _ r => cond (ih (altOne T k c p.1 p.2)) r false) l
/-- every run ends, and ends so -/
noncomputable def runAll [Hook] (post : AV → Heap → Bool) (n : Nat) : St → Bool := Nat.rec (motive := fun _ => St → Bool) (fun _ => false)
  (fun _ ih s => St.casesOn (motive := fun _ => Bool) s (fun T k c h => ih (stepGo P T k c h)) (fun m T c h => ih (stepUn P m T c h)) (fun v h => post v h) (fun l T k c => altAll ih T k c l) (fun _ => false)) n
end
end Go.VM
namespace Go.VM
/-! slots -/
theorem Slots.get_mk (n : Nat) (r : RT AV) (i : Nat) : (Slots.mk n r).get i = getJ (r.get (keyOf i)) := rfl
theorem Slots.get_set_same (n : Nat) (r : RT AV) (d : Nat) (v : AV) : (Slots.mk n (r.set v (keyOf d))).get d = v := by
  rw [Slots.get_mk, RT.get_set_same]; rfl
theorem Slots.get_set_other (n : Nat) (r : RT AV) (d i : Nat) (v : AV) (h : d ≠ i) : (Slots.mk n (r.set v (keyOf d))).get i = (Slots.mk n r).get i := by
  rw [Slots.get_mk, RT.get_set_other _ _ _ _ (fun e => h (keyOf_inj e))]; rfl
theorem getD_setIfInBounds (t : Array Value) (d i : Nat) (V : Value) (hd : d < t.size) : (t.setIfInBounds d V).getD i Go.undef = if d = i then V else t.getD i Go.undef := by
  simp only [Array.getD_eq_getD_getElem?, Array.getElem?_setIfInBounds]
  by_cases h : d = i
  · subst h; simp [hd]
  · simp [h]
section
variable {ρ : Rho}
theorem TRel.put {n : Nat} {r : RT AV} {t : Array Value} (hT : TRel ρ (.mk n r) t) {d : Nat} (hd : d < n) {v : AV} {V : Value} (hv : Rel ρ v V) : TRel ρ (.mk n (r.set v (keyOf d))) (t.setIfInBounds d V) := by
  have hn : t.size = n := hT.n
  refine ⟨by simp [hn, Slots.n], fun i => ?_⟩
  rw [getD_setIfInBounds t d i V (by omega)]
  by_cases h : d = i
  · subst h; rw [Slots.get_set_same, if_pos rfl]; exact hv
  · rw [Slots.get_set_other _ _ _ _ _ h, if_neg h]; exact hT.at_ i
theorem setSlots_get : ∀ (args : List AV) (r : RT AV) (i j n : Nat), (Slots.mk n (setSlots args r i)).get j = if i ≤ j ∧ j < i + args.length then args.getD (j - i) .junk else (Slots.mk n r).get j
  | [], r, i, j, n => by
    show (Slots.mk n r).get j = _
    rw [if_neg (by rintro ⟨h1, h2⟩; simp only [List.length_nil] at h2; omega)]
  | v :: args, r, i, j, n => by
    show (Slots.mk n (setSlots args (r.set v (keyOf i)) (i + 1))).get j = _
    rw [setSlots_get args _ (i + 1) j n]
    by_cases h : i = j
    · subst h
      rw [if_neg (by omega), if_pos (by simp), Slots.get_set_same]
      simp
    · rw [Slots.get_set_other _ _ _ _ _ h]
      by_cases h2 : i + 1 ≤ j ∧ j < i + 1 + args.length
      · rw [if_pos h2, if_pos (by simp; omega)]
        rw [show j - i = (j - (i + 1)) + 1 by omega]
        simp
      · rw [if_neg h2, if_neg (by simp; omega)]
theorem enter_TRel {args : List AV} {A : List Value} {n : Nat} (hr : RelL ρ args A) (hn : args.length ≤ n) : TRel ρ (.mk n (setSlots args .nil 0)) ((⟨A⟩ : Array Value) ++ Array.replicate (n - A.length) Go.undef) := by
  have hl := hr.length
  refine ⟨by simp [Slots.n]; omega, fun i => ?_⟩
  rw [setSlots_get]
  by_cases hi : i < args.length
  · rw [if_pos (by omega)]
    obtain ⟨v, hv⟩ : ∃ v, args[i]? = some v := ⟨_, List.getElem?_eq_getElem hi⟩
    obtain ⟨V, hV, hrel⟩ := hr.get? i hv
    have e1 : args.getD (i - 0) .junk = v := by simp [List.getD, hv]
    have e2 : ((⟨A⟩ : Array Value) ++ Array.replicate (n - A.length) Go.undef).getD i Go.undef = V := by
      rw [Array.getD_eq_getD_getElem?, Array.getElem?_append_left (by simp; omega)]
      simp [hV]
    rw [e1, e2]; exact hrel
  · rw [if_neg (by omega)]
    exact .junk _
end
/-! what the evaluator reads of the slots -/
section
variable {P : Program}
theorem ev_ext {T T' : Slots} (h : ∀ i, T.get i = T'.get i) : ev P T = ev P T' := by
  funext x
  cases x with
  | tmp i => exact h i
  | _ => rfl
theorem evs_ext {T T' : Slots} (h : ev P T = ev P T') : evs P T = evs P T' := by
  funext xs
  induction xs with
  | nil => rfl
  | cons x r ih => show ev P T x :: evs P T r = ev P T' x :: evs P T' r; rw [h, ih]
theorem evps_ext {T T' : Slots} (h : ev P T = ev P T') : evps P T = evps P T' := by
  funext xs
  induction xs with
  | nil => rfl
  | cons x r ih => show (x.1, ev P T x.2) :: evps P T r = (x.1, ev P T' x.2) :: evps P T' r; rw [h, ih]
theorem omap_ext {T T' : Slots} (h : ev P T = ev P T') : omap P T = omap P T' := by
  funext x
  cases x with
  | none => rfl
  | some x => show some (ev P T x) = some (ev P T' x); rw [h]
theorem execA_ext {T T' : Slots} {h : Heap} (e : ∀ i, T.get i = T'.get i) (o : Op) : execA P o T h = execA P o T' h := by
  have h1 := ev_ext (P := P) e
  have h2 := evs_ext h1
  have h3 := evps_ext h1
  have h4 := omap_ext h1
  cases o with
  | call c =>
    obtain ⟨callee, args, ts⟩ := c
    cases callee with
    | value f => show xCallV (ev P T f) (evs P T args.toList) h = xCallV (ev P T' f) (evs P T' args.toList) h; rw [h1, h2]
    | invoke r n => rfl
    | builtin b => show xBuiltin P b ts.toList (evs P T args.toList) h = xBuiltin P b ts.toList (evs P T' args.toList) h; rw [h2]
  | defer c => show xDefer P c T h = xDefer P c T' h; unfold xDefer; rw [h1, h2]
  | _ => simp only [execA, cMove, cPick, cAlloc, cBox, cBuild, cBuildSlice, cMapUpdate, cLoad, cStore, cNil, cBin, cUn, cConvert, cIface, cFunc, cMakeMap, cMakeSlice, cSlice, cFieldAddr, cField, cIndexAddr, cIndex, cLookup, cRange, cNext, cEntry, cAssert, cExtract, cPanic, no1, no2, no3, no4, h1, h2, h3, h4]
end
end Go.VM
namespace Go.VM
def Keeps (h : Heap) (r : Res) : Prop := (∃ v, r = .val v h) ∨ (∃ m, r = .bad m)
section
variable {P : Program} {h : Heap}
theorem Keeps.val (v : AV) : Keeps h (.val v h) := .inl ⟨v, rfl⟩
theorem Keeps.bad (m : String) : Keeps h (.bad m) := .inr ⟨m, rfl⟩
theorem Keeps.cond {b : Bool} {x y : Res} (hx : Keeps h x) (hy : Keeps h y) : Keeps h (cond b x y) := by cases b; exact hy; exact hx
theorem Keeps.okv (x : Option AV) (m : String) : Keeps h (okv x h m) := by cases x; exact .bad _; exact .val _
theorem Keeps.boolV (b : Bool) : Keeps h (boolV b h) := by rw [boolV_eq]; exact .val _
theorem Keeps.intV (k : IntKind) (n : Int) : Keeps h (intV k n h) := by rw [intV_eq]; exact .val _
theorem Keeps.scalV (x : Option Value) (m : String) : Keeps h (scalV x h m) := by
  unfold VM.scalV
  split
  · exact .intV _ _
  · exact .boolV _
  · rw [forceN_eq]; exact .val _
  · exact .bad _
theorem Keeps.strV (l c : Nat) : Keeps h (strV l c h) := by
  unfold VM.strV; rw [forceN_eq, forceN_eq]; exact .cond (.val _) (.bad _)
theorem Keeps.bnd {x : Option AV} {a b : Nat} {k : Nat → Res} (hk : ∀ n, Keeps h (k n)) : Keeps h (bnd x a b k) := by
  unfold VM.bnd; split; exact hk _; exact .bad _
theorem Keeps.force {n : Nat} {k : Nat → Res} (hk : ∀ n, Keeps h (k n)) : Keeps h (forceN n k) := by rw [forceN_eq]; exact hk n
theorem Keeps.idx {x : AV} {k : Nat → Res} (hk : ∀ n, Keeps h (k n)) : Keeps h (idx x k) := by
  unfold VM.idx; split; exact hk _; exact .bad _
theorem Keeps.sliceCells {size : Nat} {k : Nat → List AV → Res} {v : AV} (hk : ∀ n cs, Keeps h (k n cs)) : Keeps h (sliceCells h size k v) := by
  unfold VM.sliceCells
  split
  · exact hk _ _
  · exact hk _ _
  · split
    · exact hk _ _
    · exact .bad _
  · exact .cond (hk _ _) (.bad _)
  · exact .bad _
theorem keeps_pick (c a b : AV) : Keeps h (xPick c a b h) := by unfold xPick; split; exact .val _; exact .bad _
theorem keeps_build (t : Nat) (ps : List (Nat × AV)) : Keeps h (xBuild P t ps h) := by
  unfold xBuild; split
  · split
    · exact .cond (.okv _ _) (.bad _)
    · exact .cond (.okv _ _) (.bad _)
    · exact .bad _
  · exact .bad _
theorem keeps_load (t : Nat) (a : AV) : Keeps h (xLoad P t a h) := by
  unfold xLoad; split
  · exact .cond (.okv _ _) (.cond (.okv _ _) (.bad _))
  · exact .bad _
theorem keeps_nil (v : AV) : Keeps h (xNil v h) := by
  unfold xNil; split <;> first | exact .bad _ | exact .val _
theorem keeps_un (op : UnOp) (v : AV) : Keeps h (xUn P op v h) := by
  unfold xUn; split
  · exact .boolV _
  · split
    · exact .scalV _ _
    · exact .bad _
theorem keeps_binInt (op : BinOp) (t : Nat) (k : IntKind) (a : Int) (k' : IntKind) (b : Int) : Keeps h (binInt P op t k a k' b h) := by
  unfold binInt
  refine .cond ?_ (.scalV _ _)
  unfold binIntQ
  cases op <;> first | exact .boolV _ | exact .scalV _ _ | (unfold arI64; cases k <;> first | exact .scalV _ _ | exact .cond (.intV _ _) (.scalV _ _))
theorem keeps_bin (op : BinOp) (t : Nat) (cst : Bool) (x y : AV) : Keeps h (xBin P op t cst x y h) := by
  unfold xBin
  split
  · split
    · exact keeps_binInt ..
    · exact .bad _
  · split
    · unfold binStr; split <;> first | exact .strV _ _ | exact .boolV _ | exact .bad _
    · exact .bad _
  · split
    · exact .scalV _ _
    · exact .bad _
  · unfold binOther
    split
    · refine .cond ?_ (.bad _)
      unfold okb; cases eqA P h 50 t x y; exact .bad _; exact .boolV _
    · refine .cond ?_ (.bad _)
      unfold oknb; cases eqA P h 50 t x y; exact .bad _; exact .boolV _
    · split
      · exact .scalV _ _
      · exact .bad _
theorem keeps_conv (src dst : Nat) (v : AV) (hd : ∀ e, P.underlying dst ≠ some (.slice e)) : Keeps h (xConvert P src dst v h) := by
  unfold xConvert
  split
  · exact .scalV _ _
  · exact .scalV _ _
  · unfold xConvStr
    split
    · exact .cond (.val _) (.bad _)
    · rename_i e hu; exact absurd hu (hd e)
    · exact .bad _
  · unfold xConvPtr
    split
    · split
      · exact .cond (.val _) (.bad _)
      · exact .cond (.val _) (.bad _)
      · exact .bad _
    · exact .bad _
  · unfold xConvSl
    split
    · exact .cond (.sliceCells fun _ _ => .cond (.strV _ _) (.bad _)) (.bad _)
    · exact .bad _
theorem keeps_slice (t : Nat) (v : AV) (lo hi mx : Option AV) : Keeps h (xSlice P t v lo hi mx h) := by
  have hIs : ∀ size b off len c, Keeps h (sliceIs size b off len c lo hi mx h) := fun size b off len c => by
    unfold sliceIs
    exact .cond (.bad _) (.bnd fun _ => .bnd fun _ => .bnd fun _ => .force fun _ => .force fun _ => .force fun _ => .val _)
  have hMore : ∀ size b off len, Keeps h (sliceMore size b off len lo hi h) := fun size b off len => by
    unfold sliceMore
    exact .bnd fun _ => .bnd fun _ => .cond (.val _) (.cond (.force fun _ => .force fun _ => .val _) (.val _))
  unfold xSlice
  split
  · split
    · exact .bnd fun _ => .bnd fun _ => .strV _ _
    · exact .bad _
  · split
    · exact .cond (.bad _) (.bnd fun _ => .bnd fun _ => .val _)
    · exact .bad _
  · split
    · exact .cond (.bad _) (.bnd fun _ => .bnd fun _ => .val _)
    · exact .bad _
  · split
    · split
      · exact .cond (hIs ..) (.bad _)
      · split
        · exact .cond (hMore ..) (.bad _)
        · exact .bad _
    · exact .bad _
  · split
    · exact .cond (hIs ..) (.bad _)
    · exact .bad _
  · exact .bad _
theorem keeps_index (t : Nat) (v i : AV) : Keeps h (xIndexC P t v i h) := by
  have hx : ∀ v, Keeps h (xIndex P t v i h) := fun v => by
    unfold xIndex
    refine .idx fun n => ?_
    split
    · exact .cond (.force fun _ => .val _) (.bad _)
    · split
      · exact .cond (.okv _ _) (.bad _)
      · exact .bad _
    · exact .bad _
  unfold xIndexC
  split
  · exact .cond (hx _) (.bad _)
  · exact hx _
theorem keeps_indexAddr (t : Nat) (v i : AV) : Keeps h (xIndexAddr P t v i h) := by
  unfold xIndexAddr
  refine .idx fun n => ?_
  split
  · refine .cond ?_ (.bad _)
    split
    · exact .cond (.force fun _ => .val _) (.bad _)
    · exact .bad _
  · split
    · exact .cond (.force fun _ => .val _) (.bad _)
    · exact .bad _
  · exact .bad _
theorem keeps_lookup (t : Nat) (m k : AV) (cok : Bool) : Keeps h (xLookup P t m k cok h) := by
  have hi : ∀ kt et es, Keeps h (xLookupIn P kt et es k cok h) := fun kt et es => by
    unfold xLookupIn
    split
    · exact .val _
    · split
      · exact .val _
      · exact .bad _
    · exact .bad _
  unfold xLookup
  split
  · refine .cond ?_ (.bad _)
    split
    · exact hi ..
    · split
      · exact hi ..
      · exact .bad _
    · exact .bad _
  · exact .bad _
theorem keeps_assert (v : AV) (want : Nat) (cok : Bool) : Keeps h (xAssert P v want cok h) := by
  have hno : Keeps h (asNo P want cok h) := by
    unfold asNo
    refine .cond ?_ (.bad _)
    split
    · exact .val _
    · exact .bad _
  unfold xAssert
  split
  · exact .bad _
  · exact .bad _
  · unfold xAssertV
    split
    · exact .cond (.val _) hno
    · exact hno
    · exact .bad _
theorem keeps_len (t : Nat) (x : AV) : Keeps h (xLen P t x h) := by
  unfold xLen
  repeat' split
  all_goals first | exact .val _ | exact .bad _
theorem keeps_cap (t : Nat) (x : AV) : Keeps h (xCap P t x h) := by
  unfold xCap
  refine .cond ?_ (.bad _)
  split
  · exact .val _
  · exact .val _
  · exact .bad _
theorem execA_keeps {T : Slots} (o : Op) (ha : acts P o = false) (hmk : makeOp o = false) : Keeps h (execA P o T h) := by
  cases o with
  | move x => exact .val _
  | pick c a b => exact keeps_pick ..
  | build t ps => exact keeps_build ..
  | fieldAddr s x f =>
    show Keeps h (xFieldAddr P s f (ev P T x) h)
    unfold xFieldAddr; split
    · exact .cond (.force fun _ => .val _) (.bad _)
    · exact .bad _
  | field s x f =>
    show Keeps h (xField P s f (ev P T x) h)
    unfold xField; split
    · split
      · exact .okv _ _
      · exact .bad _
    · exact .bad _
  | unOp op t x => exact keeps_un ..
  | makeInterface t x => exact .cond (.val _) (.bad _)
  | makeFunc f a b =>
    show Keeps h (xFunc f _ _ h)
    unfold xFunc; split
    · exact .val _
    · exact .bad _
  | extract x i =>
    show Keeps h (xExtract _ i h)
    unfold xExtract; split
    · exact .okv _ _
    · exact .bad _
  | nilCheck x => exact keeps_nil ..
  | index t x i => exact keeps_index ..
  | indexAddr t x i => exact keeps_indexAddr ..
  | slice t x lo hi mx => exact keeps_slice ..
  | typeAssert x t u ok => exact keeps_assert ..
  | binOp op t x y z => exact keeps_bin ..
  | convert s d x =>
    refine keeps_conv s d _ (fun e hu => ?_)
    unfold acts at ha
    cases hs : P.underlying s <;> simp [hu] at ha
  | load t a => exact keeps_load ..
  | lookup t x i ok => exact keeps_lookup ..
  | call c =>
    obtain ⟨callee, args, ts⟩ := c
    cases callee with
    | value f => simp [acts] at ha
    | invoke r n => simp [acts] at ha
    | builtin b =>
      show Keeps h (xBuiltin P b ts.toList (evs P T args.toList) h)
      have one : ∀ {k : AV → Res}, (∀ x, Keeps h (k x)) → Keeps h (one1 (evs P T args.toList) k) := fun hk => by
        unfold one1; split; exact hk _; exact .bad _
      have two : ∀ {k : AV → AV → Res}, (∀ x y, Keeps h (k x y)) → Keeps h (two2 (evs P T args.toList) k) := fun hk => by
        unfold two2; split; exact hk _ _; exact .bad _
      have wT : ∀ {k : Nat → Res}, (∀ t, Keeps h (k t)) → Keeps h (withT ts.toList k) := fun hk => by
        unfold withT; split; exact hk _; exact .bad _
      cases b with
      | len => exact one fun x => wT fun t => keeps_len ..
      | min => exact two fun x y => by unfold xMin; split; exact .cond (.val _) (.val _); exact .bad _
      | max => exact two fun x y => by unfold xMax; split; exact .cond (.val _) (.val _); exact .bad _
      | cap => exact one fun x => wT fun t => keeps_cap t x
      | _ => simp [acts] at ha
  | _ => first | (simp [acts] at ha; done) | (simp [makeOp] at hmk; done)
end
end Go.VM
namespace Go.VM
/-! equality of abstract values -/
theorem beqCap_eq {a b : ACap} (h : beqCap a b = true) : a = b := by
  cases a <;> cases b <;> simp [beqCap] at h <;> first | (rw [h]) | skip
theorem beqA_eq : ∀ (d : Nat) (x y : AV), beqA d x y = true → x = y := by
  intro d
  induction d with
  | zero => intro x y h; simp [beqA] at h
  | succ d ih =>
    have ihL : ∀ xs ys : List AV, beqL (beqA d) xs ys = true → xs = ys := by
      intro xs
      induction xs with
      | nil => intro ys h; cases ys with
        | nil => rfl
        | cons => simp [beqL] at h
      | cons a xs ihx => intro ys h; cases ys with
        | nil => simp [beqL] at h
        | cons b ys =>
          simp only [beqL, Bool.and_eq_true] at h
          rw [ih a b h.1, ihx ys h.2]
    intro x y h
    unfold beqA at h
    cases x with
    | bool a => cases y <;> simp at h; rw [h]
    | int k a => cases y with
      | int k' b => simp only [Bool.and_eq_true] at h; rw [(intEq_iff a b).1 h.2, kindNo_inj h.1]
      | _ => simp at h
    | float k a => cases k <;> cases y <;> simp at h; rename_i k b; cases k <;> simp at h; rw [h]
    | str l a => cases y <;> simp at h; rw [h.1, h.2]
    | nilPtr => cases y <;> simp at h; rfl
    | ptr a o => cases y <;> simp at h; rw [(Key.same_iff _ _).1 h.1, h.2]
    | nilSlice => cases y <;> simp at h; rfl
    | slice a o l c => cases y <;> simp at h; rw [(Key.same_iff _ _).1 h.1.1, h.1.2, h.2.1, beqCap_eq h.2.2]
    | nilMap => cases y <;> simp at h; rfl
    | map a => cases y <;> simp at h; rw [(Key.same_iff _ _).1 h]
    | nilFunc => cases y <;> simp at h; rfl
    | nilIface => cases y <;> simp at h; rfl
    | iface t a => cases y <;> simp at h; rw [h.1, ih _ _ h.2]
    | func f a b =>
      cases f with
      | yield l => simp at h
      | func f =>
        cases y with
        | func g a' b' =>
          cases g with
          | yield l => simp at h
          | func g => simp at h; rw [h.1, ihL _ _ h.2.1, ihL _ _ h.2.2]
        | _ => simp at h
    | agg a => cases y <;> simp at h; rw [ihL _ _ h]
    | tup a => cases y <;> simp at h; rw [ihL _ _ h]
    | undef => cases y <;> simp at h; rfl
    | emptyS => simp at h
    | junk => simp at h
/-! lists of numbers -/
theorem elemN_iff {i : Nat} : ∀ {l : List Nat}, elemN i l = true ↔ i ∈ l
  | [] => by simp [elemN]
  | j :: r => by
    unfold elemN
    cases h : Nat.beq i j with
    | true => simp [Nat.eq_of_beq_eq_true h]
    | false =>
      have hne : i ≠ j := by intro e; subst e; simp at h
      simp [elemN_iff (l := r), hne]
theorem allIn_iff {A : List Nat} : ∀ {l : List Nat}, allIn l A = true ↔ ∀ i ∈ l, i ∈ A
  | [] => by simp [allIn]
  | j :: r => by
    unfold allIn
    cases h : elemN j A with
    | true => simp [elemN_iff.1 h, allIn_iff (l := r)]
    | false =>
      have hne : j ∉ A := fun e => by rw [elemN_iff.2 e] at h; cases h
      simp [hne]
theorem mem_upTo {i : Nat} : ∀ {n : Nat}, i ∈ upTo n ↔ i < n
  | 0 => by simp [upTo]
  | n + 1 => by simp [upTo, mem_upTo (n := n)]; omega
theorem mem_minusN {i : Nat} {A : List Nat} : ∀ {l : List Nat}, i ∈ minusN l A ↔ i ∈ l ∧ i ∉ A
  | [] => by simp [minusN]
  | j :: r => by
    unfold minusN
    cases h : elemN j A with
    | true =>
      have hj := elemN_iff.1 h
      simp only [cond_true, mem_minusN (l := r), List.mem_cons]
      constructor
      · rintro ⟨a, b⟩; exact ⟨.inr a, b⟩
      · rintro ⟨a | a, b⟩
        · subst a; exact absurd hj b
        · exact ⟨a, b⟩
    | false =>
      have hne : j ∉ A := fun e => by rw [elemN_iff.2 e] at h; cases h
      simp only [cond_false, List.mem_cons, mem_minusN (l := r)]
      constructor
      · rintro (a | a)
        · subst a; exact ⟨.inl rfl, hne⟩
        · exact ⟨.inr a.1, a.2⟩
      · rintro ⟨a | a, b⟩
        · exact .inl a
        · exact .inr ⟨a, b⟩
theorem restHangs_iff {an : List (List Nat)} {i : Nat} : ∀ {l : List Nat}, restHangs an i l = true → ∀ x ∈ l, x = i ∨ i ∈ anchAt an x
  | [], _, x, hx => by cases hx
  | y :: r, h, x, hx => by
    unfold restHangs at h
    cases hc : (cond (Nat.beq y i) true (elemN i (anchAt an y))) with
    | false => rw [hc] at h; cases h
    | true =>
      rw [hc] at h
      cases hx with
      | head =>
        cases hb : Nat.beq y i with
        | true => exact .inl (Nat.eq_of_beq_eq_true hb)
        | false => rw [hb] at hc; exact .inr (elemN_iff.1 hc)
      | tail _ hx => exact restHangs_iff h x hx
theorem asked_iff {P : Program} {all : List Oper} {an ch : List Nat} : ∀ {l : List Nat}, asked P all an ch l = true → ∀ j ∈ l, actAt P all j = true ∨ makeAt all j = true ∨ j ∈ an ∨ j ∈ ch
  | [], _, x, hx => by cases hx
  | y :: r, h, x, hx => by
    unfold asked at h
    cases hc : (cond (or (actAt P all y) (makeAt all y)) true (cond (elemN y an) true (elemN y ch))) with
    | false => rw [hc] at h; cases h
    | true =>
      rw [hc] at h
      cases hx with
      | head =>
        cases hb : actAt P all y with
        | true => exact .inl rfl
        | false =>
          cases hb1 : makeAt all y with
          | true => exact .inr (.inl rfl)
          | false =>
            rw [hb, hb1] at hc
            cases hb2 : elemN y an with
            | true => exact .inr (.inr (.inl (elemN_iff.1 hb2)))
            | false => rw [hb2] at hc; exact .inr (.inr (.inr (elemN_iff.1 hc)))
      | tail _ hx => exact asked_iff h x hx
end Go.VM
namespace Go.VM
theorem nodup_le : ∀ (n : Nat) (C : List Nat), C.Nodup → (∀ i ∈ C, i < n) → C.length ≤ n
  | 0, C, _, h => by
    cases C with
    | nil => simp
    | cons a r => exact absurd (h a (by simp)) (by omega)
  | n + 1, C, hn, h => by
    by_cases hm : n ∈ C
    · have h1 := nodup_le n (C.erase n) (hn.erase n) (fun i hi => by
        have h2 := (List.Nodup.mem_erase_iff hn).1 hi
        have := h i h2.2; have := h2.1; omega)
      rw [List.length_erase_of_mem hm] at h1
      omega
    · have := nodup_le n C hn (fun i hi => by have := h i hi; have : i ≠ n := fun e => hm (e ▸ hi); omega)
      omega
theorem nodup_full {n : Nat} {C : List Nat} (hn : C.Nodup) (h : ∀ i ∈ C, i < n) (hl : n ≤ C.length) (i : Nat) (hi : i < n) : i ∈ C := by
  by_cases hm : i ∈ C
  · exact hm
  · have := nodup_le n (i :: C) (List.nodup_cons.2 ⟨hm, hn⟩) (fun j hj => by
      cases hj with
      | head => exact hi
      | tail _ hj => exact h j hj)
    simp at this; omega
inductive Topo (ops : List Oper) : List Nat → List Nat → Prop where
  | nil {C : List Nat} (h : ∀ i, i < ops.length → i ∈ C) : Topo ops C []
  | cons {C ord : List Nat} {i : Nat} {o : Oper} (ho : ops[i]? = some o) (hi : i ∉ C) (he : ∀ j ∈ edgesOf o, j ∈ C) (hr : Topo ops (i :: C) ord) : Topo ops C (i :: ord)
theorem binds_any (e : Edge) : Region.binds .any e = bindsE e := by
  unfold Region.binds bindsE
  cases e.ground <;> rfl
theorem mem_edgesL {j : Nat} : ∀ {l : List Edge}, j ∈ edgesL l ↔ ∃ e ∈ l, bindsE e = true ∧ e.on = j
  | [] => by simp [edgesL]
  | e :: r => by
    unfold edgesL
    cases h : bindsE e with
    | true =>
      simp only [cond_true, List.mem_cons, mem_edgesL (l := r)]
      constructor
      · rintro (rfl | ⟨e', h1, h2⟩)
        · exact ⟨e, .inl rfl, h, rfl⟩
        · exact ⟨e', .inr h1, h2⟩
      · rintro ⟨e', rfl | h1, h2⟩
        · exact .inl h2.2.symm
        · exact .inr ⟨e', h1, h2⟩
    | false =>
      simp only [cond_false, List.mem_cons, mem_edgesL (l := r)]
      constructor
      · rintro ⟨e', h1, h2⟩; exact ⟨e', .inr h1, h2⟩
      · rintro ⟨e', rfl | h1, h2⟩
        · rw [h] at h2; exact absurd h2.1 (by simp)
        · exact ⟨e', h1, h2⟩
theorem fwd_spec : ∀ {ops : List Oper} {s i : Nat} {o : Oper}, fwdFrom s ops = true → ops[i]? = some o → ∀ j ∈ edgesOf o, j < s + i
  | [], _, _, _, _, h, _, _ => by simp at h
  | p :: r, s, 0, o, h, ho, j, hj => by
    unfold fwdFrom at h
    simp at ho; subst ho
    cases hc : ((edgesOf p).all fun j => Nat.blt j s) with
    | false => rw [hc] at h; cases h
    | true => have := List.all_eq_true.1 hc j hj; have := blt_lt this; omega
  | p :: r, s, i + 1, o, h, ho, j, hj => by
    unfold fwdFrom at h
    cases hc : ((edgesOf p).all fun j => Nat.blt j s) with
    | false => rw [hc] at h; cases h
    | true =>
      rw [hc] at h
      have := fwd_spec (s := s + 1) h (by simpa using ho) j hj
      omega
/-- 'listed' says which operations are done -/
def Lists (n : Nat) (listed : Array Bool) (C : List Nat) : Prop := listed.size = n ∧ ∀ i, i < n → (listed.getD i true = true ↔ i ∈ C)
theorem go_topo {ops : List Oper} (hf : fwdFrom 0 ops = true) : ∀ (fuel t : Nat) (listed : Array Bool) (C : List Nat), Lists ops.length listed C → C.Nodup → (∀ i ∈ C, i < ops.length) → ops.length ≤ C.length + fuel →
    Topo ops C (Region.linearise.go .any ⟨ops⟩ fuel t listed []) := by
  intro fuel
  induction fuel with
  | zero =>
    intro t listed C hL hn hc hl
    exact .nil (nodup_full hn hc (by omega))
  | succ fuel ih =>
    intro t listed C hL hn hc hl
    have gT : ∀ i, i < ops.length → ∀ d, listed.getD i d = decide (i ∈ C) := by
      intro i hi d
      have hsz : i < listed.size := by rw [hL.1]; exact hi
      have e1 : ∀ d, listed.getD i d = listed[i] := fun d => by simp [Array.getD_eq_getD_getElem?, Array.getElem?_eq_getElem hsz]
      have := hL.2 i hi
      rw [e1] at this ⊢
      by_cases hm : i ∈ C
      · simp [hm, this.2 hm]
      · simp only [hm, decide_false]; rw [Bool.eq_false_iff]; exact fun e => hm (this.1 e)
    have gF : ∀ i, ¬ i < ops.length → listed.getD i false = false := by
      intro i hi
      have hsz : listed.size ≤ i := by rw [hL.1]; omega
      simp [Array.getD_eq_getD_getElem?, Array.getElem?_eq_none hsz]
    have rdy : ∀ j, j ∈ Region.ready .any ⟨ops⟩ listed → ∃ o, ops[j]? = some o ∧ j ∉ C ∧ ∀ x ∈ edgesOf o, x ∈ C := by
      intro j hj
      obtain ⟨h0, o, ho, he⟩ := mem_ready.1 hj
      have ho' : ops[j]? = some o := by simpa using ho
      have hj' : j < ops.length := (List.getElem?_eq_some_iff.1 ho').1
      rw [gT j hj'] at h0
      refine ⟨o, ho', by simpa using h0, fun x hx => ?_⟩
      obtain ⟨e, hem, hb, rfl⟩ := mem_edgesL.1 hx
      have := he e (by simpa using hem) (by rw [binds_any]; exact hb)
      by_cases hlt : e.on < ops.length
      · rw [gT _ hlt] at this; simpa using this
      · rw [gF _ hlt] at this; cases this
    show Topo ops C (Region.linearise.go .any ⟨ops⟩ (fuel + 1) t listed [])
    unfold Region.linearise.go
    have hrs : ((List.range (⟨ops⟩ : Array Oper).size).filter fun i => !listed.getD i true && (((⟨ops⟩ : Array Oper)[i]?).map (·.after.all fun e => !Region.binds .any e || listed.getD e.on false)).getD false) = Region.ready .any ⟨ops⟩ listed := rfl
    simp only [hrs]
    cases hg : (Region.ready .any ⟨ops⟩ listed)[t % (Region.ready .any ⟨ops⟩ listed).length]? with
    | some i =>
      dsimp only
      rw [linearise_go_acc]
      have hmem : i ∈ Region.ready .any ⟨ops⟩ listed := List.mem_of_getElem? hg
      obtain ⟨o, ho, hi, he⟩ := rdy i hmem
      have hilt : i < ops.length := (List.getElem?_eq_some_iff.1 ho).1
      refine .cons ho hi he (ih _ _ (i :: C) ⟨by simp [hL.1], fun k hk => ?_⟩ (List.nodup_cons.2 ⟨hi, hn⟩) (fun k hk => ?_) (by simp; omega))
      · by_cases hik : i = k
        · subst hik
          have : i < listed.size := by rw [hL.1]; exact hk
          simp [Array.getD_eq_getD_getElem?, this]
        · rw [getD_set_ne true hik, gT k hk]
          have hki : k ≠ i := fun e => hik e.symm
          simp [hki]
      · cases hk with
        | head => exact hilt
        | tail _ hk => exact hc k hk
    | none =>
      refine .nil ?_
      have hempty : Region.ready .any ⟨ops⟩ listed = [] := by
        cases hr : Region.ready .any ⟨ops⟩ listed with
        | nil => rfl
        | cons a r =>
          rw [hr] at hg
          rw [List.getElem?_eq_none_iff] at hg
          have := Nat.mod_lt t (show 0 < (a :: r).length by simp)
          omega
      have key : ∀ m i, i ≤ m → i < ops.length → i ∈ C := by
        intro m
        induction m with
        | zero =>
          intro i him hi
          apply Classical.byContradiction
          intro hnot
          have : i ∈ Region.ready .any ⟨ops⟩ listed := by
            refine mem_ready.2 ⟨by rw [gT i hi]; simpa using hnot, ops[i], by simp [hi], fun e he hb => ?_⟩
            have := fwd_spec hf (List.getElem?_eq_getElem hi) e.on (mem_edgesL.2 ⟨e, by simpa using he, by rw [← binds_any]; exact hb, rfl⟩)
            omega
          rw [hempty] at this; cases this
        | succ m ihm =>
          intro i him hi
          apply Classical.byContradiction
          intro hnot
          have : i ∈ Region.ready .any ⟨ops⟩ listed := by
            refine mem_ready.2 ⟨by rw [gT i hi]; simpa using hnot, ops[i], by simp [hi], fun e he hb => ?_⟩
            have hlt := fwd_spec hf (List.getElem?_eq_getElem hi) e.on (mem_edgesL.2 ⟨e, by simpa using he, by rw [← binds_any]; exact hb, rfl⟩)
            have := ihm e.on (by omega) (by omega)
            rw [gT e.on (by omega)]; simpa using this
          rw [hempty] at this; cases this
      exact fun i hi => key i i (Nat.le_refl _) hi
theorem schedule_topo {ops : List Oper} (hf : fwdFrom 0 ops = true) (t : Nat) : Topo ops [] (Region.schedule true ⟨ops⟩ t) := by
  unfold Region.schedule
  simp only [Bool.true_or, if_true]
  unfold Region.linearise
  exact go_topo hf _ _ _ [] ⟨by simp, fun i hi => by simp [Array.getD_eq_getD_getElem?, hi]⟩ List.nodup_nil (by simp) (by simp)
end Go.VM
namespace Go.VM
theorem mem_ancOf {acc : List (List Nat)} {j : Nat} : ∀ {l : List Nat}, j ∈ ancOf acc l → ∃ e ∈ l, j = e ∨ j ∈ acc.getD e []
  | [], h => by cases h
  | x :: r, h => by
    unfold ancOf at h
    rw [cat_eq] at h
    cases h with
    | head => exact ⟨_, by simp, .inl rfl⟩
    | tail _ h =>
      rcases List.mem_append.1 h with h | h
      · exact ⟨x, by simp, .inr h⟩
      · obtain ⟨e, he, hj⟩ := mem_ancOf h; exact ⟨e, by simp [he], hj⟩
theorem ancs_prefix : ∀ (r : List Oper) (acc : List (List Nat)) (k : Nat), k < acc.length → (ancs r acc).getD k [] = acc.getD k []
  | [], acc, k, _ => rfl
  | o :: r, acc, k, hk => by
    unfold ancs
    rw [ancs_prefix r _ k (by rw [cat_eq]; simp; omega), cat_eq]
    simp [List.getD, List.getElem?_append_left hk]
theorem ancs_spec : ∀ (r : List Oper) (acc : List (List Nat)), fwdFrom acc.length r = true → ∀ i o, r[i]? = some o → ∀ j ∈ (ancs r acc).getD (acc.length + i) [], ∃ e ∈ edgesOf o, j = e ∨ j ∈ (ancs r acc).getD e []
  | [], acc, _, i, o, ho, _, _ => by simp at ho
  | p :: r, acc, hf, 0, o, ho, j, hj => by
    simp at ho; subst ho
    have hall : ∀ x ∈ edgesOf p, x < acc.length := fun x hx => by have := fwd_spec hf (i := 0) (o := p) (by simp) x hx; omega
    unfold ancs at hj ⊢
    rw [Nat.add_zero] at hj
    rw [ancs_prefix r _ acc.length (by rw [cat_eq]; simp), cat_eq] at hj
    have e1 : (acc ++ [ancOf acc (edgesOf p)]).getD acc.length [] = ancOf acc (edgesOf p) := by simp [List.getD]
    rw [e1] at hj
    obtain ⟨e, he, h⟩ := mem_ancOf hj
    refine ⟨e, he, h.imp id fun h => ?_⟩
    rw [ancs_prefix r _ e (by rw [cat_eq]; simp; have := hall e he; omega), cat_eq]
    simp [List.getD, List.getElem?_append_left (hall e he)]
    simpa [List.getD] using h
  | p :: r, acc, hf, i + 1, o, ho, j, hj => by
    unfold ancs at hj ⊢
    have hlen : (cat acc [ancOf acc (edgesOf p)]).length = acc.length + 1 := by rw [cat_eq]; simp
    have hf' : fwdFrom (cat acc [ancOf acc (edgesOf p)]).length r = true := by
      rw [hlen]
      unfold fwdFrom at hf
      cases hc : ((edgesOf p).all fun j => Nat.blt j acc.length) with
      | false => rw [hc] at hf; cases hf
      | true => rw [hc] at hf; exact hf
    exact ancs_spec r _ hf' i o (by simpa using ho) j (by rw [hlen]; rw [show acc.length + 1 + i = acc.length + (i + 1) by omega]; exact hj)
/-- what is done is done with all that it hangs on -/
def Closed (ops : List Oper) (C : List Nat) : Prop := ∀ i ∈ C, ∀ o, ops[i]? = some o → ∀ j ∈ edgesOf o, j ∈ C
theorem anc_in {ops : List Oper} (hf : fwdFrom 0 ops = true) {C : List Nat} (hC : Closed ops C) : ∀ (m i : Nat), i ≤ m → ∀ o, ops[i]? = some o → (∀ j ∈ edgesOf o, j ∈ C) → ∀ j ∈ anchAt (ancs ops []) i, j ∈ C := by
  intro m
  induction m with
  | zero =>
    intro i hi o ho he j hj
    have hi0 : i = 0 := by omega
    subst hi0
    obtain ⟨e, hem, h⟩ := ancs_spec ops [] hf 0 o ho j (by simpa [anchAt] using hj)
    have := fwd_spec hf ho e hem
    omega
  | succ m ih =>
    intro i hi o ho he j hj
    obtain ⟨e, hem, h⟩ := ancs_spec ops [] hf i o ho j (by simpa [anchAt] using hj)
    rcases h with rfl | h
    · exact he _ hem
    · have hlt := fwd_spec hf ho e hem
      have hil : i < ops.length := (List.getElem?_eq_some_iff.1 ho).1
      have hel : e < ops.length := by omega
      refine ih e (by omega) ops[e] (List.getElem?_eq_getElem hel) (fun x hx => hC e (he e hem) _ (List.getElem?_eq_getElem hel) x hx) j h
/-! masks -/
theorem maskGo_get : ∀ (es : List Nat) (ops : List Oper) (s n t : Nat) (r : RT AV), (Slots.mk n (maskGo es s ops r)).get t = .junk ∨ (Slots.mk n (maskGo es s ops r)).get t = (Slots.mk n r).get t
  | es, [], s, n, t, r => .inr rfl
  | es, o :: ops, s, n, t, r => by
    unfold maskGo
    cases he : elemN s es with
    | true => exact maskGo_get es ops (s + 1) n t r
    | false =>
      cases hd : o.dst with
      | none => exact maskGo_get es ops (s + 1) n t r
      | some d =>
        dsimp only [cond_false]
        rcases maskGo_get es ops (s + 1) n t (r.set .junk (keyOf d)) with h | h
        · exact .inl h
        · by_cases hdt : d = t
          · subst hdt; left; rw [h, Slots.get_set_same]
          · right; rw [h, Slots.get_set_other _ _ _ _ _ hdt]
/-- the slot of an operation that is not among 'es' is masked -/
theorem maskGo_junk : ∀ (es : List Nat) (ops : List Oper) (s n t i : Nat) (r : RT AV) (o : Oper), ops[i]? = some o → o.dst = some t → elemN (s + i) es = false → (Slots.mk n (maskGo es s ops r)).get t = .junk
  | es, [], s, n, t, i, r, o, ho, _, _ => by simp at ho
  | es, p :: ops, s, n, t, 0, r, o, ho, hd, he => by
    simp at ho; subst ho
    unfold maskGo
    rw [Nat.add_zero] at he
    rw [he, hd]
    dsimp only [cond_false]
    rcases maskGo_get es ops (s + 1) n t (r.set .junk (keyOf t)) with h | h
    · exact h
    · rw [h, Slots.get_set_same]
  | es, p :: ops, s, n, t, i + 1, r, o, ho, hd, he => by
    unfold maskGo
    exact maskGo_junk es ops (s + 1) n t i _ o (by simpa using ho) hd (by rw [show s + 1 + i = s + (i + 1) by omega]; exact he)
/-- what is not masked is as it was -/
theorem maskGo_keep : ∀ (es : List Nat) (ops : List Oper) (s n t : Nat) (r : RT AV), (∀ i o, ops[i]? = some o → o.dst = some t → elemN (s + i) es = true) → (Slots.mk n (maskGo es s ops r)).get t = (Slots.mk n r).get t
  | es, [], s, n, t, r, _ => rfl
  | es, o :: ops, s, n, t, r, h => by
    unfold maskGo
    have hrest : ∀ i o', ops[i]? = some o' → o'.dst = some t → elemN (s + 1 + i) es = true := fun i o' ho hd => by
      have := h (i + 1) o' (by simpa using ho) hd
      rw [show s + 1 + i = s + (i + 1) by omega]; exact this
    cases he : elemN s es with
    | true => exact maskGo_keep es ops (s + 1) n t r hrest
    | false =>
      cases hd : o.dst with
      | none => exact maskGo_keep es ops (s + 1) n t r hrest
      | some d =>
        dsimp only [cond_false]
        rw [maskGo_keep es ops (s + 1) n t _ hrest]
        by_cases hdt : d = t
        · subst hdt
          have := h 0 o (by simp) hd
          rw [Nat.add_zero, he] at this; cases this
        · rw [Slots.get_set_other _ _ _ _ _ hdt]
end Go.VM
namespace Go.VM
section
variable {P : Program} {fr : Frame} {CS : List Frame} {w : World} {k : List Item}
theorem st_nil (hm : fr.mode = .run) (hr : fr.roundOf = none) (ht : fr.todo = []) : step P (lone fr CS w) = .next (lone { fr with mode := .returning } CS w) :=
  step_lone_go (by simp [stepG, stepG.exec, hm, hr, ht])
theorem st_ret (hm : fr.mode = .run) (hr : fr.roundOf = none) (ht : fr.todo = .code .ret :: k) : step P (lone fr CS w) = .next (lone { fr with mode := .returning } CS w) :=
  step_lone_go (by simp [stepG, stepG.exec, hm, hr, ht])
theorem st_skip (hm : fr.mode = .run) (ht : fr.todo = .code .skip :: k) : step P (lone fr CS w) = .next (lone { fr with todo := k } CS w) :=
  step_lone_go (by simp [stepG, stepG.exec, hm, ht])
theorem st_label {l : Nat} (hm : fr.mode = .run) (ht : fr.todo = .code (.label l) :: k) : step P (lone fr CS w) = .next (lone { fr with todo := k } CS w) :=
  step_lone_go (by simp [stepG, stepG.exec, hm, ht])
theorem st_inBlock {id : Nat} (hm : fr.mode = .run) (ht : fr.todo = .inBlock id :: k) : step P (lone fr CS w) = .next (lone { fr with todo := k } CS w) :=
  step_lone_go (by simp [stepG, stepG.exec, hm, ht])
theorem st_inScope {c : Code} (hm : fr.mode = .run) (ht : fr.todo = .inScope c :: k) : step P (lone fr CS w) = .next (lone { fr with todo := k } CS w) :=
  step_lone_go (by simp [stepG, stepG.exec, hm, ht])
theorem st_seq {a b : Code} (hm : fr.mode = .run) (ht : fr.todo = .code (.seq a b) :: k) : step P (lone fr CS w) = .next (lone { fr with todo := .code a :: .code b :: k } CS w) :=
  step_lone_go (by simp [stepG, stepG.exec, hm, ht])
theorem st_cond {x : Operand} {a b : Code} {t : Bool} (hm : fr.mode = .run) (ht : fr.todo = .code (.cond x a b) :: k) (hx : fr.eval x = .bool t) : step P (lone fr CS w) = .next (lone { fr with todo := .code (if t then a else b) :: k } CS w) :=
  step_lone_go (by simp [stepG, stepG.exec, hm, ht, hx])
theorem st_block {id : Nat} {a : Code} (hm : fr.mode = .run) (ht : fr.todo = .code (.block id a) :: k) : step P (lone fr CS w) = .next (lone { fr with todo := .code a :: .inBlock id :: k } CS w) :=
  step_lone_go (by simp [stepG, stepG.exec, hm, ht])
theorem st_loop {a : Code} (hm : fr.mode = .run) (ht : fr.todo = .code (.loop a) :: k) : step P (lone fr CS w) = .next (lone { fr with todo := .code a :: .inLoop a :: k } CS w) :=
  step_lone_go (by simp [stepG, stepG.exec, hm, ht])
theorem st_inLoop {a : Code} (hm : fr.mode = .run) (ht : fr.todo = .inLoop a :: k) : step P (lone fr CS w) = .next (lone { fr with todo := .code a :: .inLoop a :: k } CS w) :=
  step_lone_go (by simp [stepG, stepG.exec, hm, ht])
theorem st_scope {a : Code} (hm : fr.mode = .run) (ht : fr.todo = .code (.scope a) :: k) : step P (lone fr CS w) = .next (lone { fr with todo := .code a :: .inScope a :: k } CS w) :=
  step_lone_go (by simp [stepG, stepG.exec, hm, ht])
theorem st_exit {id : Nat} {k' : List Item} (hm : fr.mode = .run) (ht : fr.todo = .code (.exit id) :: k) (hk : exitTo id k = some k') : step P (lone fr CS w) = .next (lone { fr with todo := k' } CS w) :=
  step_lone_go (by simp [stepG, stepG.exec, hm, ht, hk])
theorem st_goto {l : Nat} {k' : List Item} (hm : fr.mode = .run) (ht : fr.todo = .code (.goto l) :: k) (hk : gotoIn l k = some k') : step P (lone fr CS w) = .next (lone { fr with todo := k' } CS w) :=
  step_lone_go (by simp [stepG, stepG.exec, hm, ht, hk])
theorem st_region {id : Nat} {ops : Array Oper} (hm : fr.mode = .run) (ht : fr.todo = .code (.region id ops false) :: k) : step P (lone fr CS w) = .next (lone { fr with todo := .inRegion ops (List.range ops.size) :: k } CS w) :=
  step_lone_go (by simp [stepG, stepG.exec, hm, ht])
theorem st_draw {id : Nat} {ops : Array Oper} (hm : fr.mode = .run) (ht : fr.todo = .code (.region id ops true) :: k) :
    ∃ t, step P (lone fr CS w) = .next (lone { fr with todo := .inRegion ops (Region.schedule (P.follows .mixedOrders) ops t) :: k } CS w.drew) :=
  ⟨w.tape w.drawn (.order fr.fn id), step_lone_go (by simp [stepG, stepG.exec, hm, ht, choose, Sem.run, Question.forced, Question.cut])⟩
theorem st_region_end {ops : Array Oper} (hm : fr.mode = .run) (ht : fr.todo = .inRegion ops [] :: k) : step P (lone fr CS w) = .next (lone { fr with todo := k } CS w) :=
  step_lone_go (by simp [stepG, stepG.exec, hm, ht])
theorem st_op_skip {ops : Array Oper} {i : Nat} {rest : List Nat} {o : Oper} (hm : fr.mode = .run) (ht : fr.todo = .inRegion ops (i :: rest) :: k) (ho : ops[i]? = some o) (hw : Region.wanted o (yielded ops fr.tmps) = false) :
    step P (lone fr CS w) = .next (lone (fr.finish Go.undef) CS w) :=
  step_lone_go (by simp [stepG, stepG.exec, hm, ht, ho, hw])
theorem stepG_op' {ops : Array Oper} {i : Nat} {rest : List Nat} {o : Oper} (hm : fr.mode = .run) (hr : fr.roundOf = none ∨ ∀ c, o.op ≠ .defer c) (ht : fr.todo = .inRegion ops (i :: rest) :: k) (ho : ops[i]? = some o) (hw : Region.wanted o (yielded ops fr.tmps) = true) :
    stepG P true { frame := fr, callers := CS, status := .running, dying := none } w = stepG.apply P true fr CS none (execOp fr.eval o) w := by
  have hop : stepG.oper P true fr CS none w = stepG.apply P true fr CS none (execOp fr.eval o) w := by
    unfold stepG.oper
    simp only [Frame.oper?, ht, ho]
    rcases hr with hr | hr
    · rw [hr]
    · split
      · rename_i c heq; exact absurd heq (hr _)
      · rfl
  simp [stepG, stepG.exec, hm, ht, ho, hw, hop]
theorem st_value {ops : Array Oper} {i : Nat} {rest : List Nat} {o : Oper} {V : Value} {w' : World} (hm : fr.mode = .run) (hr : fr.roundOf = none ∨ ∀ c, o.op ≠ .defer c) (ht : fr.todo = .inRegion ops (i :: rest) :: k) (ho : ops[i]? = some o) (hw : Region.wanted o (yielded ops fr.tmps) = true)
    (hrun : (execOp fr.eval o).run P w = .ok (.value V) w') : step P (lone fr CS w) = .next (lone (fr.finish V) CS w') :=
  step_lone_go (by rw [stepG_op' hm hr ht ho hw]; simp [stepG.apply, hrun])
theorem st_none {ops : Array Oper} {i : Nat} {rest : List Nat} {o : Oper} {w' : World} (hm : fr.mode = .run) (hr : fr.roundOf = none ∨ ∀ c, o.op ≠ .defer c) (ht : fr.todo = .inRegion ops (i :: rest) :: k) (ho : ops[i]? = some o) (hw : Region.wanted o (yielded ops fr.tmps) = true)
    (hrun : (execOp fr.eval o).run P w = .ok .skip w') : step P (lone fr CS w) = .next (lone (fr.finish Go.undef) CS w') :=
  step_lone_go (by rw [stepG_op' hm hr ht ho hw]; simp [stepG.apply, hrun])
theorem st_enter {ops : Array Oper} {i : Nat} {rest : List Nat} {o : Oper} {f : FuncId} {args : Array Value} {w' : World} (hm : fr.mode = .run) (hr : fr.roundOf = none ∨ ∀ c, o.op ≠ .defer c) (ht : fr.todo = .inRegion ops (i :: rest) :: k) (ho : ops[i]? = some o) (hw : Region.wanted o (yielded ops fr.tmps) = true)
    (hrun : (execOp fr.eval o).run P w = .ok (.enter f args) w') : step P (lone fr CS w) = .next (lone (Frame.enter P f args .normal) (fr :: CS) w') :=
  step_lone_go (by rw [stepG_op' hm hr ht ho hw]; simp [stepG.apply, hrun, ht])
theorem st_defer {ops : Array Oper} {i : Nat} {rest : List Nat} {o : Oper} {d : Deferred} {w' : World} (hm : fr.mode = .run) (hr : fr.roundOf = none) (ht : fr.todo = .inRegion ops (i :: rest) :: k) (ho : ops[i]? = some o) (hw : Region.wanted o (yielded ops fr.tmps) = true)
    (hrun : (execOp fr.eval o).run P w = .ok (.defer d) w') : step P (lone fr CS w) = .next (lone ({ fr with defers := d :: fr.defers }.finish Go.undef) CS w') :=
  step_lone_go (by rw [stepG_op' hm (.inl hr) ht ho hw]; simp [stepG.apply, hrun])
theorem st_panic {ops : Array Oper} {i : Nat} {rest : List Nat} {o : Oper} {v : Value} {w' : World} (hm : fr.mode = .run) (hr : fr.roundOf = none) (ht : fr.todo = .inRegion ops (i :: rest) :: k) (ho : ops[i]? = some o) (hw : Region.wanted o (yielded ops fr.tmps) = true)
    (hrun : (execOp fr.eval o).run P w = .halt (.panic v) w') : step P (lone fr CS w) = .next (lone (fr.raise [{ v, recovered := false }]) CS w') :=
  step_lone_go (by rw [stepG_op' hm (.inl hr) ht ho hw]; simp [stepG.apply, hrun])
theorem st_recover {ops : Array Oper} {i : Nat} {rest : List Nat} {o : Oper} {w' : World} (hm : fr.mode = .run) (hr : fr.roundOf = none) (ht : fr.todo = .inRegion ops (i :: rest) :: k) (ho : ops[i]? = some o) (hw : Region.wanted o (yielded ops fr.tmps) = true)
    (hrun : (execOp fr.eval o).run P w = .ok .recover w') : step P (lone fr CS w) = .next (match tryRecover fr CS with | some (v, CS') => lone (fr.finish v) CS' w' | none => lone (fr.finish .nilIface) CS w') := by
  cases ht' : tryRecover fr CS with
  | none => exact step_lone_go (by rw [stepG_op' hm (.inl hr) ht ho hw]; simp [stepG.apply, hrun, hr, ht'])
  | some x => obtain ⟨v, CS'⟩ := x; exact step_lone_go (by rw [stepG_op' hm (.inl hr) ht ho hw]; simp [stepG.apply, hrun, hr, ht'])
theorem st_yield {ops : Array Oper} {i : Nat} {rest : List Nat} {o : Oper} {l : Nat} {f : FuncId} {t : Array Value} {a b : Code} {w' : World} (hm : fr.mode = .run) (hr : fr.roundOf = none ∨ ∀ c, o.op ≠ .defer c) (ht : fr.todo = .inRegion ops (i :: rest) :: k) (ho : ops[i]? = some o) (hw : Region.wanted o (yielded ops fr.tmps) = true)
    (hrun : (execOp fr.eval o).run P w = .ok (.round l f t a b) w') : step P (lone fr CS w) = .next (lone (Frame.round l f t a b .normal) (fr :: CS) w') :=
  step_lone_go (by rw [stepG_op' hm hr ht ho hw]; simp [stepG.apply, hrun])
theorem st_endRound {l : Nat} {c : Frame} {v : Value} {w' : World} (hm : fr.mode = .run) (hr : fr.roundOf = some l) (hk : fr.kind = .normal) (ht : fr.todo = []) (hrun : (Instr.endRound l none).run P w = .ok v w') :
    step P (lone fr (c :: CS) w) = .next (lone (c.finish v) CS w') :=
  step_lone_go (by simp [stepG, stepG.exec, hm, hr, ht, hrun, doReturn, hk])
theorem st_begin {l : Nat} {w' : World} (hm : fr.mode = .run) (hr : fr.roundOf = some l) (ht : fr.todo = .beginRound :: k) (hrun : (Instr.beginRound l).run P w = .ok () w') :
    step P (lone fr CS w) = .next (lone { fr with todo := k } CS w') :=
  step_lone_go (by simp [stepG, stepG.exec, stepG.apply, hm, hr, ht, hrun, Frame.finish])
theorem st_endRange {l : Nat} {w' : World} (hm : fr.mode = .run) (ht : fr.todo = .endRangeFunc l :: k) (hrun : (Instr.endLoop l).run P w = .ok none w') :
    step P (lone fr CS w) = .next (lone { fr with todo := k } CS w') :=
  step_lone_go (by simp [stepG, stepG.exec, hm, ht, hrun])
theorem st_range {f : Operand} {ps : Array Tmp} {a b : Code} {l : Nat} {mk : List Deferred} {w' : World} {g : FuncId} {args : Array Value} (hm : fr.mode = .run) (hr : fr.roundOf = none) (ht : fr.todo = .code (.rangeFunc f ps a b) :: k)
    (hrun : (Instr.enterLoop fr.fn fr.tmps ps a b none).run P w = .ok (l, mk) w') (hcall : (do let d ← Deferred.ofValue (fr.eval f) #[.func (.yield l) #[] #[]]; invoke d.target d.args : Sem Next).run P w' = .ok (.enter g args) w') :
    step P (lone fr CS w) = .next (lone (Frame.enter P g args .normal) ({ fr with todo := .inRangeFunc l :: k, defers := mk ++ fr.defers } :: CS) w') := by
  refine step_lone_go ?_
  have hX : ∀ X : Frame, X.tmps = fr.tmps → ((resolve X.eval { callee := .value f, args := #[.const (.func (.yield l) #[] #[])], argTypes := #[] } 0).run P w').andThen (fun a w' => (invoke a.target a.args).run P w') = .ok (.enter g args) w' := by
    intro X hX
    have hev : X.eval f = fr.eval f := by cases f <;> simp [Frame.eval, hX]
    have e : Array.map X.eval #[Operand.const (.func (.yield l) #[] #[])] = #[.func (.yield l) #[] #[]] := by simp [Frame.eval]
    have hr : resolve X.eval { callee := .value f, args := #[.const (.func (.yield l) #[] #[])], argTypes := #[] } 0 = Deferred.ofValue (fr.eval f) #[.func (.yield l) #[] #[]] := by
      show Deferred.ofValue (X.eval f) (Array.map X.eval #[Operand.const (.func (.yield l) #[] #[])]) = _
      rw [hev, e]
    rw [hr, ← hcall, Sem.run_bind]
  simp [stepG, stepG.exec, hm, hr, ht, hrun, stepG.apply, hX]
theorem st_collected {b : Nat} {x : Array Value} {ds calls : List Deferred} {w' : World} (hm : fr.mode ≠ .run) (hd : fr.defers = { target := .collected b, args := x } :: ds) (hrun : (Instr.takeDeferred b).run P w = .ok calls w') :
    step P (lone fr CS w) = .next (lone { fr with defers := calls ++ ds } CS w') := by
  refine step_lone_go ?_
  have : stepG P true { frame := fr, callers := CS, status := .running, dying := none } w = unwind P true fr CS none w := by
    unfold stepG
    cases hmm : fr.mode with
    | run => exact absurd hmm hm
    | returning => simp [hmm]
    | panicking c => simp [hmm]
  rw [this]
  simp [unwind, hd, hrun]
end
end Go.VM
namespace Go.VM
/-! operations that only make: done here early, at a key that is not known yet -/
noncomputable def RT.del {α : Type} (k : Key) : RT α → RT α :=
  List.rec (motive := fun _ => RT α → RT α)
    (fun t => RT.casesOn (motive := fun _ => RT α) t .nil (fun _ c0 c1 c2 c3 c4 c5 c6 c7 => .node none c0 c1 c2 c3 c4 c5 c6 c7))
    (fun d _ ih t => RT.casesOn (motive := fun _ => RT α) t .nil (fun v c0 c1 c2 c3 c4 c5 c6 c7 => match d with
      | .d0 => .node v (ih c0) c1 c2 c3 c4 c5 c6 c7 | .d1 => .node v c0 (ih c1) c2 c3 c4 c5 c6 c7 | .d2 => .node v c0 c1 (ih c2) c3 c4 c5 c6 c7 | .d3 => .node v c0 c1 c2 (ih c3) c4 c5 c6 c7
      | .d4 => .node v c0 c1 c2 c3 (ih c4) c5 c6 c7 | .d5 => .node v c0 c1 c2 c3 c4 (ih c5) c6 c7 | .d6 => .node v c0 c1 c2 c3 c4 c5 (ih c6) c7 | .d7 => .node v c0 c1 c2 c3 c4 c5 c6 (ih c7))) k
theorem RT.get_del_same {α : Type} : ∀ (k : Key) (t : RT α), (RT.del k t).get k = none := by
  intro k
  induction k with
  | nil => intro t; cases t <;> rfl
  | cons d ds ih => intro t; cases t with
    | nil => cases d <;> rfl
    | node v c0 c1 c2 c3 c4 c5 c6 c7 => cases d <;> exact ih _
theorem RT.get_del_other {α : Type} : ∀ (k k' : Key) (t : RT α), k ≠ k' → (RT.del k t).get k' = t.get k' := by
  intro k
  induction k with
  | nil =>
    intro k' t h
    cases k' with
    | nil => exact absurd rfl h
    | cons d ds => cases t <;> cases d <;> rfl
  | cons d ds ih =>
    intro k' t h
    cases t with
    | nil => rfl
    | node v c0 c1 c2 c3 c4 c5 c6 c7 =>
      cases k' with
      | nil => cases d <;> rfl
      | cons d' ds' =>
        by_cases hd : d = d'
        · subst hd
          have h' : ds ≠ ds' := fun e => h (by rw [e])
          cases d <;> exact ih _ _ h'
        · cases d <;> cases d' <;> first | rfl | exact absurd rfl hd
section
variable {P : Program} {w0 : World} {ρ : Rho} {h h' : Heap} {w : World}
/-- of the heap only what is known matters -/
theorem Sim.ext (hs : Sim w0 ρ h w) (he : ∀ b L, ρ b = some L → h'.get b = h.get b) : Sim w0 ρ h' w :=
  ⟨hs.os, hs.out, hs.size, hs.old, fun b L e => by rw [he b L e]; exact hs.obj b L e,
   fun b b' L L' o o' e e' g g' l l' hB => hs.inj b b' L L' o o' e e' (by rw [← he b L e]; exact g) (by rw [← he b' L' e']; exact g') l l' hB⟩
/-- whatever the heap, this object is made -/
def Makes (P : Program) (op : Op) (T : Slots) (ob : AObj) (vf : Key → AV) : Prop := ∀ h : Heap, execA P op T h = h.alloc ob (fun b h => .val (vf b) h)
theorem makes_or {op : Op} (hm : makeOp op = true) (T : Slots) : (∃ ob vf, Makes P op T ob vf) ∨ (∀ h : Heap, ∃ m, execA P op T h = .bad m) := by
  cases op with
  | alloc e =>
    cases hz : zeroOf P e with
    | none => exact .inr fun h => ⟨_, by show xAlloc P e h = _; unfold xAlloc; rw [hz]⟩
    | some z => exact .inl ⟨_, _, fun h => by show xAlloc P e h = _; unfold xAlloc; rw [hz]⟩
  | box e v =>
    cases hc : (ev P T v).sure with
    | false => exact .inr fun h => ⟨_, by show xBox e (ev P T v) h = _; unfold xBox; rw [hc]; rfl⟩
    | true => exact .inl ⟨.cells e (ev P T v).cells false 0, fun b => .ptr b 0, fun h => by show xBox e (ev P T v) h = _; unfold xBox; rw [hc]; rfl⟩
  | makeMap t r =>
    cases hc : hintOk P t (omap P T r) with
    | false => exact .inr fun h => ⟨_, by show cond (hintOk P t (omap P T r)) _ _ = _; rw [hc]; rfl⟩
    | true => exact .inl ⟨.map [] 0, fun b => .map b, fun h => by show cond (hintOk P t (omap P T r)) _ _ = _; rw [hc]; rfl⟩
  | buildSlice t n ps =>
    have key : (∃ (ob : AObj) (vf : Key → AV), ∀ h : Heap, xBuildSlice P t n (evps P T ps.toList) h = h.alloc ob (fun b h => .val (vf b) h)) ∨ (∀ h : Heap, ∃ m, xBuildSlice P t n (evps P T ps.toList) h = .bad m) := by
      unfold xBuildSlice
      split
      · split
        · rename_i z _
          cases hc : (and (Nat.beq (len z.cells) (szOf P _)) (Nat.ble (n * szOf P _) 16777216)) with
          | false => exact .inr fun h => ⟨_, rfl⟩
          | true =>
            dsimp only [cond_true]
            split
            · exact .inl ⟨_, _, fun h => rfl⟩
            · exact .inr fun h => ⟨_, rfl⟩
        · exact .inr fun h => ⟨_, rfl⟩
      · exact .inr fun h => ⟨_, rfl⟩
    exact key
  | makeSlice t l c =>
    have key : (∃ (ob : AObj) (vf : Key → AV), ∀ h : Heap, xMakeSlice P t (ev P T l) (ev P T c) h = h.alloc ob (fun b h => .val (vf b) h)) ∨ (∀ h : Heap, ∃ m, xMakeSlice P t (ev P T l) (ev P T c) h = .bad m) := by
      unfold xMakeSlice
      split
      · split
        · generalize (and _ _) = c
          cases c with
          | false => exact .inr fun h => ⟨_, rfl⟩
          | true => dsimp only [cond_true]; exact .inl ⟨_, _, fun h => rfl⟩
        · exact .inr fun h => ⟨_, rfl⟩
      · exact .inr fun h => ⟨_, rfl⟩
    exact key
  | _ => simp [makeOp] at hm
/-- made there: the object that stands here already is known from now on -/
theorem make_ok (hP : TypesOk P) (hs : Sim w0 ρ h w) {T : Slots} {E : Operand → Value} (hE : EvRel P ρ T E) {o : Oper} {ob : AObj} {vf : Key → AV} (hmk : Makes P o.op T ob vf) {b : Key} (hb : h.get b = some ob) (hn : ρ b = none) :
    ∃ ρ' w', Sub ρ ρ' ∧ (∀ k, k ≠ b → ρ k = none → (∃ x, h.get k = some x) → ρ' k = none) ∧ Sim w0 ρ' h w' ∧ ((∃ V, Rel ρ' (vf b) V ∧ (execOp E o).run P w = .ok (.value V) w') ∨ (vf b = .undef ∧ (execOp E o).run P w = .ok .skip w')) := by
  obtain ⟨t, nx⟩ := h
  have hs2 : Sim w0 ρ (.mk (RT.del b t) b) w := hs.ext fun k L e => by
    have hne : b ≠ k := fun e2 => by subst e2; rw [hn] at e; cases e
    exact RT.get_del_other b k t hne
  have hx := execA_ok hP hs2 hE o
  have hal : execA P o.op T (.mk (RT.del b t) b) = .val (vf b) (.mk ((RT.del b t).set ob b) (incr b)) := by
    rw [hmk]
    show Heap.allocT (RT.del b t) b ob (fun b h => Res.val (vf b) h) = _
    unfold Heap.allocT
    rw [RT.get_del_same]
  rw [hal] at hx
  obtain ⟨ρ', w', hsub, hk, hs3, hc⟩ := hx
  refine ⟨ρ', w', hsub, ?_, ?_, hc⟩
  · intro k hkb hnk ⟨x, hx⟩
    exact (hk k x ((RT.get_del_other b k t (Ne.symm hkb)).trans hx) hnk).1
  · refine hs3.ext fun k L e => ?_
    by_cases hkb : b = k
    · subst hkb
      exact hb.trans (RT.get_set_same ob b _).symm
    · show t.get k = ((RT.del b t).set ob b).get k
      rw [RT.get_set_other ob b k _ hkb, RT.get_del_other b k t hkb]
theorem make_moves {op : Op} (hm : makeOp op = true) {T : Slots} {v : AV} (he : execA P op T h = .val v h) : False := by
  rcases makes_or (P := P) hm T with ⟨ob, vf, hmk⟩ | hb
  · rw [hmk h] at he
    obtain ⟨t, n⟩ := h
    have he : Heap.allocT t n ob (fun b h => Res.val (vf b) h) = .val v (.mk t n) := he
    unfold Heap.allocT at he
    cases hg : t.get n with
    | some x => rw [hg] at he; cases he
    | none =>
      rw [hg] at he
      have he : Res.val (vf n) (.mk (t.set ob n) (incr n)) = .val v (.mk t n) := he
      injection he with _ he
      injection he with he _
      have := RT.get_set_same ob n t
      rw [he, hg] at this
      cases this
  · obtain ⟨m, hb⟩ := hb h
    rw [hb] at he; cases he
/-- reserved keys: of each its operation, its key, its object -/
structure Resv (ρ : Rho) (h : Heap) (R : List (Nat × Key × AObj)) : Prop where
  nodup : (R.map (·.2.1)).Nodup
  none_ : ∀ x ∈ R, ρ x.2.1 = none
  obj : ∀ x ∈ R, h.get x.2.1 = some x.2.2
theorem Resv.nil (ρ : Rho) (h : Heap) : Resv ρ h [] := ⟨by simp, by simp, by simp⟩
theorem Resv.kept {ρ' : Rho} {R : List (Nat × Key × AObj)} (hr : Resv ρ h R) (hk : Kept ρ h ρ' h') : Resv ρ' h' R :=
  ⟨hr.nodup, fun x hx => (hk _ _ (hr.obj x hx) (hr.none_ x hx)).1, fun x hx => (hk _ _ (hr.obj x hx) (hr.none_ x hx)).2⟩
theorem Resv.right {R S : List (Nat × Key × AObj)} (hr : Resv ρ h (R ++ S)) : Resv ρ h S :=
  ⟨by have := hr.nodup; rw [List.map_append] at this; exact (List.nodup_append.1 this).2.1, fun x hx => hr.none_ x (List.mem_append_right _ hx), fun x hx => hr.obj x (List.mem_append_right _ hx)⟩
/-- one more is reserved -/
theorem Resv.cons {R : List (Nat × Key × AObj)} (hr : Resv ρ h R) {i : Nat} {b : Key} {ob : AObj} (hb : h.get b = none) (hn : ρ b = none) (hg : h'.get b = some ob) (ho : ∀ k, k ≠ b → h'.get k = h.get k) : Resv ρ h' ((i, b, ob) :: R) := by
  have hne : ∀ x ∈ R, x.2.1 ≠ b := fun x hx e => by have := hr.obj x hx; rw [e, hb] at this; cases this
  refine ⟨?_, ?_, ?_⟩
  · rw [List.map_cons, List.nodup_cons]
    refine ⟨fun hm => ?_, hr.nodup⟩
    obtain ⟨x, hx, e⟩ := List.mem_map.1 hm
    exact hne x hx e
  · intro x hx
    cases hx with
    | head => exact hn
    | tail _ hx => exact hr.none_ x hx
  · intro x hx
    cases hx with
    | head => exact hg
    | tail _ hx => rw [ho _ (hne x hx)]; exact hr.obj x hx
theorem Resv.uniq {R : List (Nat × Key × AObj)} (hr : Resv ρ h R) : ∀ x ∈ R, ∀ y ∈ R, x.2.1 = y.2.1 → x = y := by
  have := hr.nodup
  clear hr
  induction R with
  | nil => intro x hx; cases hx
  | cons a R ih =>
    rw [List.map_cons, List.nodup_cons] at this
    intro x hx y hy e
    cases hx with
    | head =>
      cases hy with
      | head => rfl
      | tail _ hy => exact absurd (List.mem_map.2 ⟨y, hy, e.symm⟩) this.1
    | tail _ hx =>
      cases hy with
      | head => exact absurd (List.mem_map.2 ⟨x, hx, e⟩) this.1
      | tail _ hy => exact ih this.2 x hx y hy e
def without (b : Key) (R : List (Nat × Key × AObj)) : List (Nat × Key × AObj) := R.filter (fun x => decide (x.2.1 ≠ b))
theorem mem_without {b : Key} {R : List (Nat × Key × AObj)} {x : Nat × Key × AObj} : x ∈ without b R ↔ x ∈ R ∧ x.2.1 ≠ b := by simp [without]
/-- one is reserved no more -/
theorem Resv.drop {ρ' : Rho} {R S : List (Nat × Key × AObj)} (hr : Resv ρ h (R ++ S)) {y : Nat × Key × AObj} (hy : y ∈ R) (hk : ∀ k, k ≠ y.2.1 → ρ k = none → (∃ x, h.get k = some x) → ρ' k = none) : Resv ρ' h (without y.2.1 R ++ S) := by
  have hmem : ∀ x ∈ without y.2.1 R ++ S, x ∈ R ++ S ∧ x.2.1 ≠ y.2.1 := by
    intro x hx
    rcases List.mem_append.1 hx with hx | hx
    · exact ⟨List.mem_append_left _ (mem_without.1 hx).1, (mem_without.1 hx).2⟩
    · refine ⟨List.mem_append_right _ hx, fun e => ?_⟩
      have hnd := hr.nodup
      rw [List.map_append, List.nodup_append] at hnd
      exact hnd.2.2 _ (List.mem_map.2 ⟨y, hy, rfl⟩) _ (List.mem_map.2 ⟨x, hx, rfl⟩) e.symm
  refine ⟨?_, fun x hx => hk _ (hmem x hx).2 (hr.none_ x (hmem x hx).1) ⟨_, hr.obj x (hmem x hx).1⟩, fun x hx => hr.obj x (hmem x hx).1⟩
  refine List.Sublist.nodup ?_ hr.nodup
  exact (List.Sublist.append (List.filter_sublist) (List.Sublist.refl S)).map _
end
end Go.VM
namespace Go.VM
def Glob (P : Program) (ρ : Rho) : Prop := ∀ g, g < P.globals.size → ∃ L, ρ (gkey g) = some L ∧ L.B = g ∧ L.base = 0
theorem Glob.mono {P : Program} {ρ ρ' : Rho} (s : Sub ρ ρ') (h : Glob P ρ) : Glob P ρ' := fun g hg => let ⟨L, a, b⟩ := h g hg; ⟨L, s _ _ a, b⟩
theorem eval_rel {P : Program} {ρ : Rho} {T : Slots} {fr : Frame} (hg : Glob P ρ) (hT : TRel ρ T fr.tmps) : EvRel P ρ T fr.eval := by
  intro x
  refine ev_rel hT fr.eval (fun i => rfl) (fun v => rfl) (fun f => rfl) (fun g hlt => ?_) x
  obtain ⟨L, h1, h2, h3⟩ := hg g hlt
  exact ⟨L, h1, by show Value.pointer (some ⟨g, 0, none⟩) = _; rw [h2, h3]⟩
theorem operAt_eq (all : List Oper) (i : Nat) : operAt all i = all[i]? := by simp [operAt, hd_eq, drop_eq, List.head?_drop]
def dstL (all : List Oper) (i : Nat) : Option Nat := (all[i]?).bind (·.dst)
theorem dstAt_eq (all : List Oper) (i : Nat) : dstAt all i = dstL all i := by rw [dstAt, operAt_eq]; rfl
/-- the guard, as the model asks it -/
theorem guard_ok {ρ : Rho} {all : List Oper} {T : Slots} {t : Array Value} (hT : TRel ρ T t) {o : Oper} {b : Bool} (hg : guardA o.guard all T = some b) : Region.wanted o (yielded ⟨all⟩ t) = b := by
  unfold Region.wanted
  cases hgu : o.guard with
  | none => rw [hgu] at hg; have : true = b := by simpa [guardA] using hg
            subst this; rfl
  | some g =>
    obtain ⟨j, want⟩ := g
    rw [hgu] at hg
    dsimp only
    cases hd : dstAt all j with
    | none => simp [guardA, hd] at hg
    | some d =>
      have hg' : guardV (T.get d) want = some b := by simpa [guardA, hd] using hg
      have hd' : ((⟨all⟩ : Array Oper)[j]?).bind (·.dst) = some d := by rw [dstAt_eq] at hd; simpa [dstL] using hd
      have hrel := hT.at_ d
      unfold guardV at hg'
      generalize hv : T.get d = v at hg' hrel
      generalize hV : t.getD d Go.undef = V at hrel
      unfold yielded
      rw [hd']
      dsimp only [Option.bind_some]
      cases hrel with
      | bool x =>
        have hb : (x == want) = b := by simpa using hg'
        have : t[d]? = some (.bool x) := by
          rw [Array.getD_eq_getD_getElem?] at hV
          cases ht : t[d]? with
          | none => rw [ht] at hV; simp [Go.undef] at hV
          | some y => rw [ht] at hV; simp at hV; rw [hV]
        rw [this]
        dsimp only
        rw [← hb]
        cases x <;> cases want <;> rfl
      | undef =>
        have hb : false = b := by simpa using hg'
        subst hb
        rw [Array.getD_eq_getD_getElem?] at hV
        cases ht : t[d]? with
        | none => rfl
        | some y => rw [ht] at hV; simp at hV; rw [hV]; rfl
      | _ => simp at hg'
section
variable (P : Program)
/-- an operation that is done here only: done there, it gives the same -/
def Chk (all : List Oper) (T : Slots) (h : Heap) (i : Nat) : Prop := ∃ o, all[i]? = some o ∧
  ((guardA o.guard all (maskT (edgesOf o) all T) = some true ∧ ∃ v, execA P o.op (maskT (edgesOf o) all T) h = .val v h ∧ ∀ d, o.dst = some d → T.get d = v) ∨
   (guardA o.guard all (maskT (edgesOf o) all T) = some false ∧ ∀ d, o.dst = some d → T.get d = .undef))
/-- an operation that makes, done here only -/
def Made (R : List (Nat × Key × AObj)) (all : List Oper) (T : Slots) (i : Nat) : Prop := ∃ o ob vf b, all[i]? = some o ∧ makeOp o.op = true ∧ guardA o.guard all (maskT (edgesOf o) all T) = some true ∧
  Makes P o.op (maskT (edgesOf o) all T) ob vf ∧ (i, b, ob) ∈ R ∧ ∀ d, o.dst = some d → T.get d = vf b
structure DInv (ρ : Rho) (h : Heap) (R : List (Nat × Key × AObj)) (all : List Oper) (plan : List PStep) (A C ord : List Nat) (T : Slots) (t : Array Value) : Prop where
  fwd : fwdFrom 0 all = true
  inj : ∀ i j d, dstL all i = some d → dstL all j = some d → i = j
  ok : planOk P all (ancs all []) A plan = true
  topo : Topo all C ord
  closed : Closed all C
  closedA : Closed all A
  sub : ∀ i ∈ C, i ∈ A
  quiet : ∀ i ∈ A, i ∉ C → actAt P all i = false
  lt : ∀ i ∈ A, i < all.length
  dlt : ∀ i ∈ A, ∀ d, dstL all i = some d → d < T.n
  size : t.size = T.n
  slots : ∀ s, (∀ i ∈ A, i ∉ C → dstL all i ≠ some s) → Rel ρ (T.get s) (t.getD s Go.undef)
  chk : ∀ i ∈ A, i ∉ C → i ∈ chkRun plan ∨ Chk P all T h i ∨ Made P R all T i
end
section
variable {P : Program} {w0 : World} {ρ : Rho} {h : Heap} {w : World} {all : List Oper} {plan : List PStep} {A C ord : List Nat} {T : Slots} {t : Array Value} {R : List (Nat × Key × AObj)}
theorem DInv.mono {ρ' : Rho} (s : Sub ρ ρ') (hD : DInv P ρ h R all plan A C ord T t) : DInv P ρ' h R all plan A C ord T t :=
  ⟨hD.fwd, hD.inj, hD.ok, hD.topo, hD.closed, hD.closedA, hD.sub, hD.quiet, hD.lt, hD.dlt, hD.size, fun x hx => (hD.slots x hx).mono s, hD.chk⟩
theorem maskT_n (es : List Nat) (all : List Oper) (T : Slots) : (maskT es all T).n = T.n := by cases T; rfl
/-- with the slots of all that need not be done masked, the slots agree -/
theorem DInv.masked (hD : DInv P ρ h R all plan A C ord T t) {o : Oper} (he : ∀ j ∈ edgesOf o, j ∈ C) : TRel ρ (maskT (edgesOf o) all T) t := by
  refine ⟨by rw [maskT_n]; exact hD.size, fun s => ?_⟩
  obtain ⟨n, r⟩ := T
  show Rel ρ ((Slots.mk n (maskGo (edgesOf o) 0 all r)).get s) _
  by_cases hx : ∃ i p, all[i]? = some p ∧ p.dst = some s ∧ elemN i (edgesOf o) = false
  · obtain ⟨i, p, hp, hd, hne⟩ := hx
    rw [maskGo_junk (edgesOf o) all 0 n s i r p hp hd (by rw [Nat.zero_add]; exact hne)]
    exact .junk _
  · have hall : ∀ i p, all[i]? = some p → p.dst = some s → elemN i (edgesOf o) = true := by
      intro i p hp hd
      cases hb : elemN i (edgesOf o) with
      | true => rfl
      | false => exact absurd ⟨i, p, hp, hd, hb⟩ hx
    rw [maskGo_keep (edgesOf o) all 0 n s r (fun i p hp hd => by rw [Nat.zero_add]; exact hall i p hp hd)]
    refine hD.slots s fun i hi hni hds => hni (he i ?_)
    unfold dstL at hds
    cases hp : all[i]? with
    | none => simp [hp] at hds
    | some p => rw [hp] at hds; exact elemN_iff.1 (hall i p hp hds)
end
end Go.VM
namespace Go.VM
def putT (t : Array Value) (d : Option Nat) (V : Value) : Array Value := match d with | some d => t.setIfInBounds d V | none => t
theorem finish_eq {fr : Frame} {ops : Array Oper} {i : Nat} {rest : List Nat} {k : List Item} (ht : fr.todo = .inRegion ops (i :: rest) :: k) (V : Value) :
    fr.finish V = { fr with tmps := putT fr.tmps ((ops[i]?).bind (·.dst)) V, todo := .inRegion ops rest :: k } := by
  unfold Frame.finish
  rw [ht]
  dsimp only
  cases (ops[i]?).bind (·.dst) <;> rfl
theorem putT_size (t : Array Value) (d : Option Nat) (V : Value) : (putT t d V).size = t.size := by cases d <;> simp [putT]
theorem putT_get (t : Array Value) (d : Option Nat) (V : Value) (s : Nat) (hd : ∀ x, d = some x → x < t.size) : (putT t d V).getD s Go.undef = if d = some s then V else t.getD s Go.undef := by
  cases d with
  | none => simp [putT]
  | some d =>
    unfold putT
    rw [getD_setIfInBounds t d s V (hd d rfl)]
    by_cases h : d = s <;> simp [h]
section
variable {P : Program} {w0 : World} {ρ : Rho} {h : Heap} {w : World} {all : List Oper} {plan : List PStep} {A C ord : List Nat} {T : Slots} {fr : Frame} {CS : List Frame} {k : List Item} {R R' S : List (Nat × Key × AObj)}
/-- one operation more is done there -/
theorem DInv.caught {t : Array Value} {j : Nat} {V : Value} (hD : DInv P ρ h R all plan A C (j :: ord) T t) (hj : j ∈ A) (hV : ∀ d, dstL all j = some d → Rel ρ (T.get d) V) (hR : ∀ i, i ≠ j → Made P R all T i → Made P R' all T i) : DInv P ρ h R' all plan A (j :: C) ord T (putT t (dstL all j) V) := by
  cases hD.topo with
  | cons ho hi he hr =>
    rename_i o
    have hdl : ∀ x, dstL all j = some x → x < t.size := fun x hx => by rw [hD.size]; exact hD.dlt j hj x hx
    refine ⟨hD.fwd, hD.inj, hD.ok, hr, ?_, hD.closedA, ?_, ?_, hD.lt, hD.dlt, by rw [putT_size]; exact hD.size, ?_, ?_⟩
    · intro i hi' o' ho' x hx
      cases hi' with
      | head => rw [ho] at ho'; cases ho'; exact List.mem_cons_of_mem _ (he x hx)
      | tail _ hi' => exact List.mem_cons_of_mem _ (hD.closed i hi' o' ho' x hx)
    · intro i hi'
      cases hi' with
      | head => exact hj
      | tail _ hi' => exact hD.sub i hi'
    · intro i hA hC
      exact hD.quiet i hA (fun h => hC (List.mem_cons_of_mem _ h))
    · intro s hs
      rw [putT_get _ _ _ _ hdl]
      by_cases hd : dstL all j = some s
      · rw [if_pos hd]; exact hV s hd
      · rw [if_neg hd]
        refine hD.slots s fun i hA hC => ?_
        by_cases hij : i = j
        · subst hij; exact hd
        · exact hs i hA (fun h => by cases h with | head => exact hij rfl | tail _ h => exact hC h)
    · intro i hA hC
      rcases hD.chk i hA (fun h => hC (List.mem_cons_of_mem _ h)) with h1 | h1 | h1
      · exact .inl h1
      · exact .inr (.inl h1)
      · exact .inr (.inr (hR i (fun e => hC (by rw [e]; exact List.mem_cons_self)) h1))
theorem catch1 (hP : TypesOk P) (hg : Glob P ρ) (hs : Sim w0 ρ h w) (hres : Resv ρ h (R ++ S)) (hm : fr.mode = .run) {j : Nat} (ht : fr.todo = .inRegion ⟨all⟩ (j :: ord) :: k) (hD : DInv P ρ h R all plan A C (j :: ord) T fr.tmps)
    (hj : j ∈ A) (hc : Chk P all T h j ∨ Made P R all T j) : ∃ ρ' w' t' R', Sub ρ ρ' ∧ Resv ρ' h (R' ++ S) ∧ Sim w0 ρ' h w' ∧ step P (lone fr CS w) = .next (lone { fr with tmps := t', todo := .inRegion ⟨all⟩ ord :: k } CS w') ∧ DInv P ρ' h R' all plan A (j :: C) ord T t' := by
  obtain ⟨o, ho⟩ : ∃ o, all[j]? = some o := by
    rcases hc with ⟨o, ho, _⟩ | ⟨o, _, _, _, ho, _⟩ <;> exact ⟨o, ho⟩
  have ho' : (⟨all⟩ : Array Oper)[j]? = some o := by simpa using ho
  have he : ∀ x ∈ edgesOf o, x ∈ C := by
    cases hD.topo with
    | cons ho2 hi he hr => rw [ho] at ho2; cases ho2; exact he
  have hjC : j ∉ C := by cases hD.topo with | cons _ hi _ _ => exact hi
  have hnd : ∀ c, o.op ≠ .defer c := by
    intro c hc
    have := hD.quiet j hj hjC
    simp [actAt, ho, hc, acts] at this
  have hTm := hD.masked he
  have hfin : ∀ V, fr.finish V = { fr with tmps := putT fr.tmps (dstL all j) V, todo := .inRegion ⟨all⟩ ord :: k } := by
    intro V; rw [finish_eq ht, ho']; simp [dstL, ho]
  have hdst : ∀ d, dstL all j = some d → o.dst = some d := fun d hd => by simpa [dstL, ho] using hd
  rcases hc with ⟨o2, ho2, hcase⟩ | ⟨o2, ob, vf, b, ho2, hmo, hgu, hmk, hmem, hv⟩
  · rw [ho] at ho2; cases ho2
    rcases hcase with ⟨hgu, v, hex, hv⟩ | ⟨hgu, hv⟩
    · have hw := guard_ok hTm hgu
      have hn := execA_ok (w := w) hP hs (eval_rel (fr := fr) hg hTm) o
      rw [hex] at hn
      obtain ⟨ρ', w', hsub, hkept, hs', hcases⟩ := hn
      rcases hcases with ⟨V, hrel, hrun⟩ | ⟨hve, hrun⟩
      · refine ⟨ρ', w', _, R, hsub, hres.kept hkept, hs', ?_, (hD.mono hsub).caught hj (fun d hd => by rw [hv d (hdst d hd)]; exact hrel) (fun _ _ h => h)⟩
        rw [st_value hm (.inr hnd) ht ho' hw hrun, hfin]
      · refine ⟨ρ', w', _, R, hsub, hres.kept hkept, hs', ?_, (hD.mono hsub).caught (V := Go.undef) hj (fun d hd => by rw [hv d (hdst d hd), hve]; exact .undef) (fun _ _ h => h)⟩
        rw [st_none hm (.inr hnd) ht ho' hw hrun, hfin]
    · have hw := guard_ok hTm hgu
      refine ⟨ρ, w, _, R, Sub.refl _, hres, hs, ?_, hD.caught (V := Go.undef) hj (fun d hd => by rw [hv d (hdst d hd)]; exact .undef) (fun _ _ h => h)⟩
      rw [st_op_skip hm ht ho' hw, hfin]
  · rw [ho] at ho2; cases ho2
    have hw := guard_ok hTm hgu
    have hmem' : (j, b, ob) ∈ R ++ S := List.mem_append_left _ hmem
    obtain ⟨ρ', w', hsub, hk, hs', hcases⟩ := make_ok (w := w) hP hs (eval_rel (fr := fr) hg hTm) hmk (hres.obj _ hmem') (hres.none_ _ hmem')
    have hR : ∀ i, i ≠ j → Made P R all T i → Made P (without b R) all T i := by
      rintro i hij ⟨o3, ob3, vf3, b3, h1, h2, h3, h4, h5, h6⟩
      refine ⟨o3, ob3, vf3, b3, h1, h2, h3, h4, mem_without.2 ⟨h5, fun e => ?_⟩, h6⟩
      have := hres.uniq _ (List.mem_append_left _ h5) _ hmem' e
      exact hij (congrArg Prod.fst this)
    have hres' := hres.drop hmem hk
    rcases hcases with ⟨V, hrel, hrun⟩ | ⟨hve, hrun⟩
    · refine ⟨ρ', w', _, without b R, hsub, hres', hs', ?_, (hD.mono hsub).caught hj (fun d hd => by rw [hv d (hdst d hd)]; exact hrel) hR⟩
      rw [st_value hm (.inr hnd) ht ho' hw hrun, hfin]
    · refine ⟨ρ', w', _, without b R, hsub, hres', hs', ?_, (hD.mono hsub).caught (V := Go.undef) hj (fun d hd => by rw [hv d (hdst d hd), hve]; exact .undef) hR⟩
      rw [st_none hm (.inr hnd) ht ho' hw hrun, hfin]
end
end Go.VM
namespace Go.VM
section
variable {P : Program} {w0 : World} {h : Heap} {all : List Oper} {A : List Nat} {T : Slots} {fr : Frame} {CS : List Frame} {k : List Item} {S : List (Nat × Key × AObj)}
/-- the frame, its slots and its region at hand -/
def inReg (fr : Frame) (t : Array Value) (all : List Oper) (ord : List Nat) (k : List Item) : Frame := { fr with tmps := t, todo := .inRegion ⟨all⟩ ord :: k }
theorem catchTo (hP : TypesOk P) (hm : fr.mode = .run) {i : Nat} {rest : List PStep} {o : Oper} (ho : all[i]? = some o) (hact : acts P o.op = true) : ∀ (ord : List Nat) (ρ : Rho) (w : World) (t : Array Value) (C : List Nat) (R : List (Nat × Key × AObj)), Glob P ρ → Sim w0 ρ h w → Resv ρ h (R ++ S) →
    DInv P ρ h R all (.op i :: rest) A C ord T t → ∃ ρ' w' t' C' ord' R', Sub ρ ρ' ∧ Resv ρ' h (R' ++ S) ∧ Sim w0 ρ' h w' ∧ Steps P (lone (inReg fr t all ord k) CS w) (lone (inReg fr t' all (i :: ord') k) CS w') ∧ DInv P ρ' h R' all (.op i :: rest) A C' (i :: ord') T t' := by
  intro ord
  induction ord with
  | nil =>
    intro ρ w t C R hg hs hres hD
    exfalso
    have hok := hD.ok
    unfold planOk at hok
    rw [ho] at hok
    have hiA : i ∉ A := by
      intro hm
      have : elemN i A = true := elemN_iff.2 hm
      simp [this] at hok
    cases hD.topo with
    | nil hall => exact hiA (hD.sub i (hall i (List.getElem?_eq_some_iff.1 ho).1))
  | cons j ord ih =>
    intro ρ w t C R hg hs hres hD
    by_cases hji : j = i
    · subst hji
      exact ⟨ρ, w, t, C, ord, R, Sub.refl _, hres, hs, .refl _ _, hD⟩
    · have hok := hD.ok
      unfold planOk at hok
      rw [ho] at hok
      dsimp only at hok
      have hiA : i ∉ A := by
        intro hm
        have : elemN i A = true := elemN_iff.2 hm
        simp [this] at hok
      have hnA : elemN i A = false := by
        cases hb : elemN i A with
        | false => rfl
        | true => exact absurd (elemN_iff.1 hb) hiA
      have hhang : restHangs (ancs all []) i (minusN (upTo all.length) A) = true := by
        cases h1 : allIn (edgesOf o) A with
        | false => simp [hnA, h1] at hok
        | true =>
          cases h2 : restHangs (ancs all []) i (minusN (upTo all.length) A) with
          | true => rfl
          | false => simp [hnA, h1, h2, hact] at hok
      have hj : j ∈ A := by
        apply Classical.byContradiction
        intro hjA
        cases hD.topo with
        | cons hoj hjC hej hrj =>
          have hjl : j < all.length := (List.getElem?_eq_some_iff.1 hoj).1
          rcases restHangs_iff hhang j (mem_minusN.2 ⟨mem_upTo.2 hjl, hjA⟩) with h1 | h1
          · exact hji h1
          · exact hiA (hD.sub i (anc_in hD.fwd hD.closed j j (Nat.le_refl _) _ hoj hej i h1))
      have hjC : j ∉ C := by cases hD.topo with | cons _ hi _ _ => exact hi
      have hc : Chk P all T h j ∨ Made P R all T j := by
        rcases hD.chk j hj hjC with h1 | h1
        · simp [chkRun] at h1
        · exact h1
      obtain ⟨ρ1, w1, t1, R1, s1, k1, sim1, hstep, hD1⟩ := catch1 (CS := CS) (fr := inReg fr t all (j :: ord) k) (k := k) hP hg hs hres hm rfl hD hj hc
      obtain ⟨ρ2, w2, t2, C2, ord2, R2, s2, k2, sim2, hsteps, hD2⟩ := ih ρ1 w1 t1 (j :: C) R1 (hg.mono s1) sim1 k1 hD1
      exact ⟨ρ2, w2, t2, C2, ord2, R2, s1.trans s2, k2, sim2, .head hstep hsteps, hD2⟩
theorem catchEnd (hP : TypesOk P) (hm : fr.mode = .run) : ∀ (ord : List Nat) (ρ : Rho) (w : World) (t : Array Value) (C : List Nat) (R : List (Nat × Key × AObj)), Glob P ρ → Sim w0 ρ h w → Resv ρ h (R ++ S) →
    DInv P ρ h R all [] A C ord T t → ∃ ρ' w' t', Sub ρ ρ' ∧ Resv ρ' h S ∧ Sim w0 ρ' h w' ∧ Steps P (lone (inReg fr t all ord k) CS w) (lone { fr with tmps := t', todo := k } CS w') ∧ TRel ρ' T t' := by
  intro ord
  induction ord with
  | nil =>
    intro ρ w t C R hg hs hres hD
    refine ⟨ρ, w, t, Sub.refl _, hres.right, hs, .one (st_region_end (fr := inReg fr t all [] k) hm rfl), ⟨hD.size, fun s => hD.slots s fun i hA hC => ?_⟩⟩
    cases hD.topo with
    | nil hall => exact absurd (hall i (hD.lt i hA)) hC
  | cons j ord ih =>
    intro ρ w t C R hg hs hres hD
    have hj : j ∈ A := by
      cases hD.topo with
      | cons hoj hjC hej hrj =>
        have hjl : j < all.length := (List.getElem?_eq_some_iff.1 hoj).1
        have hok := hD.ok
        unfold planOk at hok
        exact allIn_iff.1 hok j (mem_upTo.2 hjl)
    have hjC : j ∉ C := by cases hD.topo with | cons _ hi _ _ => exact hi
    have hc : Chk P all T h j ∨ Made P R all T j := by
      rcases hD.chk j hj hjC with h1 | h1
      · simp [chkRun] at h1
      · exact h1
    obtain ⟨ρ1, w1, t1, R1, s1, k1, sim1, hstep, hD1⟩ := catch1 (CS := CS) (fr := inReg fr t all (j :: ord) k) (k := k) hP hg hs hres hm rfl hD hj hc
    obtain ⟨ρ2, w2, t2, s2, k2, sim2, hsteps, hD2⟩ := ih ρ1 w1 t1 (j :: C) R1 (hg.mono s1) sim1 k1 hD1
    exact ⟨ρ2, w2, t2, s1.trans s2, k2, sim2, .head hstep hsteps, hD2⟩
end
end Go.VM
namespace Go.VM
noncomputable def putA (T : Slots) (d : Option Nat) (v : AV) : Slots := match d, T with
  | some d, .mk n r => .mk n (r.set v (keyOf d))
  | none, T => T
theorem putA_n (T : Slots) (d : Option Nat) (v : AV) : (putA T d v).n = T.n := by cases d <;> cases T <;> rfl
theorem putA_get (T : Slots) (d : Option Nat) (v : AV) (s : Nat) : (putA T d v).get s = if d = some s then v else T.get s := by
  cases d with
  | none => simp [putA]
  | some d =>
    obtain ⟨n, r⟩ := T
    show (Slots.mk n (r.set v (keyOf d))).get s = _
    by_cases h : d = s
    · subst h; rw [Slots.get_set_same]; simp
    · rw [Slots.get_set_other _ _ _ _ _ h]; simp [h]
theorem putK_cases (T : Slots) (d : Option Nat) (v : AV) (k : Slots → St) : ((∀ x, d = some x → x < T.n) ∧ putK T d v k = k (putA T d v)) ∨ (∃ m, putK T d v k = .bad m) := by
  cases d with
  | none => exact .inl ⟨fun x h => (by cases h), rfl⟩
  | some d =>
    obtain ⟨n, r⟩ := T
    show (_ ∧ cond (Nat.blt d n) (k (.mk n (r.set v (keyOf d)))) (.bad "slot") = _) ∨ (∃ m, cond (Nat.blt d n) (k (.mk n (r.set v (keyOf d)))) (.bad "slot") = .bad m)
    cases hb : Nat.blt d n with
    | true => exact .inl ⟨fun x h => by cases h; exact blt_lt hb, rfl⟩
    | false => exact .inr ⟨_, rfl⟩
theorem TRel.putA {ρ : Rho} {T : Slots} {t : Array Value} (hT : TRel ρ T t) {d : Option Nat} (hd : ∀ x, d = some x → x < T.n) {v : AV} {V : Value} (hv : Rel ρ v V) : TRel ρ (putA T d v) (putT t d V) := by
  refine ⟨by rw [putT_size, putA_n]; exact hT.n, fun s => ?_⟩
  rw [putA_get, putT_get _ _ _ _ (fun x hx => by rw [hT.n]; exact hd x hx)]
  split
  · exact hv
  · exact hT.at_ s
section
variable {all : List Oper}
theorem mask_put {es : List Nat} {i : Nat} {o : Oper} (ho : all[i]? = some o) (hne : elemN i es = false) (T : Slots) (v : AV) (s : Nat) : (maskT es all (putA T o.dst v)).get s = (maskT es all T).get s := by
  cases hd : o.dst with
  | none => rfl
  | some d =>
    obtain ⟨n, r⟩ := T
    show (Slots.mk n (maskGo es 0 all (r.set v (keyOf d)))).get s = (Slots.mk n (maskGo es 0 all r)).get s
    by_cases hx : ∃ j p, all[j]? = some p ∧ p.dst = some s ∧ elemN j es = false
    · obtain ⟨j, p, hp, hd, hne⟩ := hx
      rw [maskGo_junk es all 0 n s j _ p hp hd (by rw [Nat.zero_add]; exact hne), maskGo_junk es all 0 n s j _ p hp hd (by rw [Nat.zero_add]; exact hne)]
    · have hall : ∀ j p, all[j]? = some p → p.dst = some s → elemN (0 + j) es = true := by
        intro j p hp hd
        rw [Nat.zero_add]
        cases hb : elemN j es with
        | true => rfl
        | false => exact absurd ⟨j, p, hp, hd, hb⟩ hx
      rw [maskGo_keep es all 0 n s _ hall, maskGo_keep es all 0 n s _ hall]
      have hds : d ≠ s := by
        intro e; subst e
        have := hall i o ho hd
        rw [Nat.zero_add, hne] at this; cases this
      rw [Slots.get_set_other _ _ _ _ _ hds]
theorem guardA_ext {g : Option (Nat × Bool)} {T T' : Slots} (h : ∀ s, T.get s = T'.get s) : guardA g all T = guardA g all T' := by
  cases g with
  | none => rfl
  | some g =>
    unfold guardA
    dsimp only
    cases dstAt all g.1 with
    | none => rfl
    | some d => dsimp only; rw [h d]
end
section
variable {P : Program} {ρ : Rho} {h : Heap} {all : List Oper} {rest : List PStep} {A C ord : List Nat} {T : Slots} {t : Array Value} {R : List (Nat × Key × AObj)}
theorem planOk_op {i : Nat} (hok : planOk P all (ancs all []) A (.op i :: rest) = true) : ∃ o, all[i]? = some o ∧ i ∉ A ∧ (∀ j ∈ edgesOf o, j ∈ A) ∧ (acts P o.op = true → restHangs (ancs all []) i (minusN (upTo all.length) A) = true ∧ asked P all (anchAt (ancs all []) i) (chkRun rest) A = true) ∧ planOk P all (ancs all []) (i :: A) rest = true ∧ (acts P o.op = false → makeOp o.op = true → asked P all [] (chkRun rest) A = true) := by
  unfold planOk at hok
  cases ho : all[i]? with
  | none => simp [ho] at hok
  | some o =>
    rw [ho] at hok
    dsimp only at hok
    cases h1 : elemN i A with
    | true => simp [h1] at hok
    | false =>
      cases h2 : allIn (edgesOf o) A with
      | false => simp [h1, h2] at hok
      | true =>
        simp only [h1, h2, Bool.not_false, Bool.and_self, cond_true] at hok
        have hiA : i ∉ A := (fun hm => by rw [elemN_iff.2 hm] at h1; cases h1)
        refine ⟨o, rfl, hiA, allIn_iff.1 h2, ?_, ?_, ?_⟩
        · intro ha
          rw [ha] at hok
          simp only [cond_true] at hok
          cases h3 : (restHangs (ancs all []) i (minusN (upTo all.length) A) && asked P all (anchAt (ancs all []) i) (chkRun rest) A) with
          | false => rw [h3] at hok; cases hok
          | true => exact Bool.and_eq_true _ _ ▸ h3
        · cases h3 : (cond (acts P o.op) (restHangs (ancs all []) i (minusN (upTo all.length) A) && asked P all (anchAt (ancs all []) i) (chkRun rest) A) (cond (makeOp o.op) (asked P all [] (chkRun rest) A) true)) with
          | false => rw [h3] at hok; cases hok
          | true => rw [h3] at hok; exact hok
        · intro ha hmo
          rw [ha, hmo] at hok
          cases h3 : asked P all [] (chkRun rest) A with
          | false => rw [h3] at hok; cases hok
          | true => rfl
theorem Chk.put {i j : Nat} {o : Oper} {v : AV} (ho : all[i]? = some o) (hc : Chk P all T h j) (hne : ∀ p, all[j]? = some p → i ∉ edgesOf p) (hd : ∀ d, dstL all j = some d → o.dst ≠ some d) : Chk P all (putA T o.dst v) h j := by
  obtain ⟨p, hp, hcase⟩ := hc
  have hni : elemN i (edgesOf p) = false := by
    cases hb : elemN i (edgesOf p) with
    | false => rfl
    | true => exact absurd (elemN_iff.1 hb) (hne p hp)
  have hmask := mask_put ho hni T v
  have hg := guardA_ext (all := all) (g := p.guard) hmask
  have hx := execA_ext (P := P) (h := h) hmask p.op
  refine ⟨p, hp, ?_⟩
  rw [hg, hx]
  have hget : ∀ d, p.dst = some d → (putA T o.dst v).get d = T.get d := fun d hpd => by
    rw [putA_get, if_neg (hd d (by simp [dstL, hp, hpd]))]
  rcases hcase with ⟨a, x, b, c⟩ | ⟨a, c⟩
  · exact .inl ⟨a, x, b, fun d hpd => by rw [hget d hpd]; exact c d hpd⟩
  · exact .inr ⟨a, fun d hpd => by rw [hget d hpd]; exact c d hpd⟩
theorem Made.put {i j : Nat} {o : Oper} {v : AV} (ho : all[i]? = some o) (hc : Made P R all T j) (hne : ∀ p, all[j]? = some p → i ∉ edgesOf p) (hd : ∀ d, dstL all j = some d → o.dst ≠ some d) : Made P R all (putA T o.dst v) j := by
  obtain ⟨p, ob, vf, b, hp, hmo, hgu, hmk, hmem, hv⟩ := hc
  have hni : elemN i (edgesOf p) = false := by
    cases hb : elemN i (edgesOf p) with
    | false => rfl
    | true => exact absurd (elemN_iff.1 hb) (hne p hp)
  have hmask := mask_put ho hni T v
  refine ⟨p, ob, vf, b, hp, hmo, (guardA_ext (all := all) (g := p.guard) hmask).trans hgu, fun h => (execA_ext (P := P) (h := h) hmask p.op).trans (hmk h), hmem, fun d hpd => ?_⟩
  rw [putA_get, if_neg (hd d (by simp [dstL, hp, hpd]))]
  exact hv d hpd
theorem Made.more {j : Nat} {x : Nat × Key × AObj} (hc : Made P R all T j) : Made P (x :: R) all T j := by
  obtain ⟨p, ob, vf, b, hp, hmo, hgu, hmk, hmem, hv⟩ := hc
  exact ⟨p, ob, vf, b, hp, hmo, hgu, hmk, List.mem_cons_of_mem _ hmem, hv⟩
/-- an operation that only reckons or reads is done here -/
theorem DInv.quietOp {i : Nat} {o : Oper} {v : AV} (hD : DInv P ρ h R all (.op i :: rest) A C ord T t) (ho : all[i]? = some o) (hq : acts P o.op = false) (hdl : ∀ x, o.dst = some x → x < T.n)
    (hv : (guardA o.guard all (maskT (edgesOf o) all T) = some true ∧ execA P o.op (maskT (edgesOf o) all T) h = .val v h) ∨ (guardA o.guard all (maskT (edgesOf o) all T) = some false ∧ v = .undef)) :
    DInv P ρ h R all rest (i :: A) C ord (putA T o.dst v) t := by
  obtain ⟨o', ho', hiA, hea, _, hok', _⟩ := planOk_op hD.ok
  rw [ho] at ho'; cases ho'
  have hiC : i ∉ C := fun hm => hiA (hD.sub i hm)
  have hdo : dstL all i = o.dst := by simp [dstL, ho]
  refine ⟨hD.fwd, hD.inj, hok', hD.topo, hD.closed, ?_, fun j hj => List.mem_cons_of_mem _ (hD.sub j hj), ?_, ?_, ?_, by rw [putA_n]; exact hD.size, ?_, ?_⟩
  · intro j hj p hp x hx
    cases hj with
    | head => rw [ho] at hp; cases hp; exact List.mem_cons_of_mem _ (hea x hx)
    | tail _ hj => exact List.mem_cons_of_mem _ (hD.closedA j hj p hp x hx)
  · intro j hj hjC
    cases hj with
    | head => simp [actAt, ho, hq]
    | tail _ hj => exact hD.quiet j hj hjC
  · intro j hj
    cases hj with
    | head => exact (List.getElem?_eq_some_iff.1 ho).1
    | tail _ hj => exact hD.lt j hj
  · intro j hj d hd
    rw [putA_n]
    cases hj with
    | head => rw [hdo] at hd; exact hdl d hd
    | tail _ hj => exact hD.dlt j hj d hd
  · intro s hs
    have hne := hs i (by simp) hiC
    rw [hdo] at hne
    rw [putA_get, if_neg hne]
    exact hD.slots s fun j hj hjC => hs j (List.mem_cons_of_mem _ hj) hjC
  · intro j hj hjC
    right
    cases hj with
    | head =>
      left
      have hni : elemN i (edgesOf o) = false := by
        cases hb : elemN i (edgesOf o) with
        | false => rfl
        | true => have := fwd_spec hD.fwd ho i (elemN_iff.1 hb); omega
      have hmask := mask_put ho hni T v
      refine ⟨o, ho, ?_⟩
      rw [guardA_ext (all := all) (g := o.guard) hmask, execA_ext (P := P) (h := h) hmask o.op]
      rcases hv with ⟨a, b⟩ | ⟨a, b⟩
      · exact .inl ⟨a, v, b, fun d hd => by rw [putA_get, if_pos hd]⟩
      · exact .inr ⟨a, fun d hd => by rw [putA_get, if_pos hd, b]⟩
    | tail _ hj =>
      have hdd : ∀ d, dstL all j = some d → o.dst ≠ some d := fun d hd e => by
        have := hD.inj i j d (by rw [hdo]; exact e) hd
        subst this; exact hiA hj
      rcases hD.chk j hj hjC with h1 | h1 | h1
      · simp [chkRun] at h1
      · exact .inl (h1.put ho (fun p hp hm => hiA (hD.closedA j hj p hp i hm)) hdd)
      · exact .inr (h1.put ho (fun p hp hm => hiA (hD.closedA j hj p hp i hm)) hdd)
/-- an operation that only makes is done here -/
theorem DInv.madeHere {h' : Heap} {i : Nat} {o : Oper} {ob : AObj} {vf : Key → AV} {b : Key} (hD : DInv P ρ h R all (.op i :: rest) A C ord T t) (ho : all[i]? = some o) (hq : acts P o.op = false) (hmo : makeOp o.op = true) (hdl : ∀ x, o.dst = some x → x < T.n)
    (hgu : guardA o.guard all (maskT (edgesOf o) all T) = some true) (hmk : Makes P o.op (maskT (edgesOf o) all T) ob vf) : DInv P ρ h' ((i, b, ob) :: R) all rest (i :: A) C ord (putA T o.dst (vf b)) t := by
  obtain ⟨o', ho', hiA, hea, _, hok', hask⟩ := planOk_op hD.ok
  rw [ho] at ho'; cases ho'
  have hask := hask hq hmo
  have hiC : i ∉ C := fun hm => hiA (hD.sub i hm)
  have hdo : dstL all i = o.dst := by simp [dstL, ho]
  refine ⟨hD.fwd, hD.inj, hok', hD.topo, hD.closed, ?_, fun j hj => List.mem_cons_of_mem _ (hD.sub j hj), ?_, ?_, ?_, by rw [putA_n]; exact hD.size, ?_, ?_⟩
  · intro j hj p hp x hx
    cases hj with
    | head => rw [ho] at hp; cases hp; exact List.mem_cons_of_mem _ (hea x hx)
    | tail _ hj => exact List.mem_cons_of_mem _ (hD.closedA j hj p hp x hx)
  · intro j hj hjC
    cases hj with
    | head => simp [actAt, ho, hq]
    | tail _ hj => exact hD.quiet j hj hjC
  · intro j hj
    cases hj with
    | head => exact (List.getElem?_eq_some_iff.1 ho).1
    | tail _ hj => exact hD.lt j hj
  · intro j hj d hd
    rw [putA_n]
    cases hj with
    | head => rw [hdo] at hd; exact hdl d hd
    | tail _ hj => exact hD.dlt j hj d hd
  · intro s hs
    have hne := hs i (by simp) hiC
    rw [hdo] at hne
    rw [putA_get, if_neg hne]
    exact hD.slots s fun j hj hjC => hs j (List.mem_cons_of_mem _ hj) hjC
  · intro j hj hjC
    cases hj with
    | head =>
      right; right
      have hni : elemN i (edgesOf o) = false := by
        cases hb : elemN i (edgesOf o) with
        | false => rfl
        | true => have := fwd_spec hD.fwd ho i (elemN_iff.1 hb); omega
      have hmask := mask_put ho hni T (vf b)
      exact ⟨o, ob, vf, b, ho, hmo, (guardA_ext (all := all) (g := o.guard) hmask).trans hgu, fun h => (execA_ext (P := P) (h := h) hmask o.op).trans (hmk h), List.mem_cons_self, fun d hd => by rw [putA_get, if_pos hd]⟩
    | tail _ hj =>
      have hdd : ∀ d, dstL all j = some d → o.dst ≠ some d := fun d hd e => by
        have := hD.inj i j d (by rw [hdo]; exact e) hd
        subst this; exact hiA hj
      rcases asked_iff hask j hj with h1 | h1 | h1 | h1
      · rw [hD.quiet j hj hjC] at h1; cases h1
      · rcases hD.chk j hj hjC with h2 | h2 | h2
        · simp [chkRun] at h2
        · obtain ⟨p, hp, hcase⟩ := h2
          have hpm : makeOp p.op = true := by simpa [makeAt, hp] using h1
          rcases hcase with ⟨_, x, hx, _⟩ | ⟨a, c⟩
          · exact (make_moves hpm hx).elim
          · exact .inr (.inl (Chk.put (h := h') ho ⟨p, hp, .inr ⟨a, c⟩⟩ (fun p hp hm => hiA (hD.closedA j hj p hp i hm)) hdd))
        · exact .inr (.inr ((h2.put ho (fun p hp hm => hiA (hD.closedA j hj p hp i hm)) hdd).more))
      · cases h1
      · exact .inl h1
theorem planOk_chk {j : Nat} (hok : planOk P all (ancs all []) A (.chk j :: rest) = true) : makeAt all j = false ∧ planOk P all (ancs all []) A rest = true := by
  unfold planOk at hok
  cases hm : makeAt all j with
  | true => rw [hm] at hok; cases hok
  | false => rw [hm] at hok; exact ⟨rfl, hok⟩
/-- an operation that only reckons or reads is asked again -/
theorem DInv.asked {j : Nat} (hD : DInv P ρ h R all (.chk j :: rest) A C ord T t) (hc : j ∈ A → j ∉ C → Chk P all T h j) : DInv P ρ h R all rest A C ord T t := by
  refine ⟨hD.fwd, hD.inj, (planOk_chk hD.ok).2, hD.topo, hD.closed, hD.closedA, hD.sub, hD.quiet, hD.lt, hD.dlt, hD.size, hD.slots, fun i hA hC => ?_⟩
  rcases hD.chk i hA hC with h1 | h1
  · cases h1 with
    | head => exact .inr (.inl (hc hA hC))
    | tail _ h1 => exact .inl h1
  · exact .inr h1
theorem chkO_Chk {j : Nat} {o : Oper} (ho : all[j]? = some o) (hq : acts P o.op = false) (hnm : makeOp o.op = false) (hc : chkO P o all T h = true) : Chk P all T h j := by
  unfold chkO at hc
  cases hd : o.dst with
  | none => simp [hd] at hc
  | some d =>
    rw [hd] at hc
    dsimp only at hc
    unfold chkG at hc
    refine ⟨o, ho, ?_⟩
    cases hg : guardA o.guard all (maskT (edgesOf o) all T) with
    | none => simp [hg] at hc
    | some b =>
      rw [hg] at hc
      cases b with
      | true =>
        dsimp only at hc
        left
        refine ⟨rfl, ?_⟩
        rcases execA_keeps (P := P) (h := h) (T := maskT (edgesOf o) all T) o.op hq hnm with ⟨v, hv⟩ | ⟨m, hv⟩
        · rw [hv] at hc
          have := beqA_eq 60 v (T.get d) hc
          exact ⟨v, hv, fun d' hd' => by rw [hd] at hd'; cases hd'; exact this.symm⟩
        · rw [hv] at hc; cases hc
      | false =>
        dsimp only at hc
        right
        refine ⟨rfl, fun d' hd' => ?_⟩
        rw [hd] at hd'; cases hd'
        split at hc
        · rename_i e; exact e
        · cases hc
end
end Go.VM
