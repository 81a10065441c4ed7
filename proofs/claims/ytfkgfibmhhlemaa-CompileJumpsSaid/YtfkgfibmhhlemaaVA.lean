/- An evaluator of the model's operations (its definitions), and what its values, memory and first operations mean in the model. No conditions: a library text of the proof. -/
import GoSem.Step
import Derived.Calls
import Derived.WalkKit
namespace Go.VM
inductive D8 where | d0 | d1 | d2 | d3 | d4 | d5 | d6 | d7
abbrev Key := List D8
inductive RT (α : Type) where
  | nil
  | node (v : Option α) (c0 c1 c2 c3 c4 c5 c6 c7 : RT α)
noncomputable def RT.get {α : Type} (t : RT α) : Key → Option α :=
  RT.rec (motive := fun _ => Key → Option α) (fun _ => none)
    (fun v _ _ _ _ _ _ _ _ i0 i1 i2 i3 i4 i5 i6 i7 k => List.rec (motive := fun _ => Option α) v
      (fun d ds _ => D8.rec (motive := fun _ => Option α) (i0 ds) (i1 ds) (i2 ds) (i3 ds) (i4 ds) (i5 ds) (i6 ds) (i7 ds) d) k) t
noncomputable def RT.set {α : Type} (x : α) (k : Key) : RT α → RT α :=
  List.rec (motive := fun _ => RT α → RT α)
    (fun t => RT.rec (motive := fun _ => RT α) (.node (some x) .nil .nil .nil .nil .nil .nil .nil .nil) (fun _ c0 c1 c2 c3 c4 c5 c6 c7 _ _ _ _ _ _ _ _ => .node (some x) c0 c1 c2 c3 c4 c5 c6 c7) t)
    (fun d _ ih t => D8.rec (motive := fun _ => RT α)
      (RT.rec (motive := fun _ => RT α) (.node none (ih .nil) .nil .nil .nil .nil .nil .nil .nil) (fun v c0 c1 c2 c3 c4 c5 c6 c7 _ _ _ _ _ _ _ _ => .node v (ih c0) c1 c2 c3 c4 c5 c6 c7) t)
      (RT.rec (motive := fun _ => RT α) (.node none .nil (ih .nil) .nil .nil .nil .nil .nil .nil) (fun v c0 c1 c2 c3 c4 c5 c6 c7 _ _ _ _ _ _ _ _ => .node v c0 (ih c1) c2 c3 c4 c5 c6 c7) t)
      (RT.rec (motive := fun _ => RT α) (.node none .nil .nil (ih .nil) .nil .nil .nil .nil .nil) (fun v c0 c1 c2 c3 c4 c5 c6 c7 _ _ _ _ _ _ _ _ => .node v c0 c1 (ih c2) c3 c4 c5 c6 c7) t)
      (RT.rec (motive := fun _ => RT α) (.node none .nil .nil .nil (ih .nil) .nil .nil .nil .nil) (fun v c0 c1 c2 c3 c4 c5 c6 c7 _ _ _ _ _ _ _ _ => .node v c0 c1 c2 (ih c3) c4 c5 c6 c7) t)
      (RT.rec (motive := fun _ => RT α) (.node none .nil .nil .nil .nil (ih .nil) .nil .nil .nil) (fun v c0 c1 c2 c3 c4 c5 c6 c7 _ _ _ _ _ _ _ _ => .node v c0 c1 c2 c3 (ih c4) c5 c6 c7) t)
      (RT.rec (motive := fun _ => RT α) (.node none .nil .nil .nil .nil .nil (ih .nil) .nil .nil) (fun v c0 c1 c2 c3 c4 c5 c6 c7 _ _ _ _ _ _ _ _ => .node v c0 c1 c2 c3 c4 (ih c5) c6 c7) t)
      (RT.rec (motive := fun _ => RT α) (.node none .nil .nil .nil .nil .nil .nil (ih .nil) .nil) (fun v c0 c1 c2 c3 c4 c5 c6 c7 _ _ _ _ _ _ _ _ => .node v c0 c1 c2 c3 c4 c5 (ih c6) c7) t)
      (RT.rec (motive := fun _ => RT α) (.node none .nil .nil .nil .nil .nil .nil .nil (ih .nil)) (fun v c0 c1 c2 c3 c4 c5 c6 c7 _ _ _ _ _ _ _ _ => .node v c0 c1 c2 c3 c4 c5 c6 (ih c7)) t)
      d) k
def D8.ofNat : Nat → D8
  | 0 => .d0 | 1 => .d1 | 2 => .d2 | 3 => .d3 | 4 => .d4 | 5 => .d5 | 6 => .d6 | _ => .d7
def keyOf (n : Nat) : Key := D8.ofNat (n % 8) :: D8.ofNat (n / 8 % 8) :: D8.ofNat (n / 64 % 8) :: List.replicate (n / 512) .d0
def incr : Key → Key
  | [] => []
  | .d0 :: ds => .d1 :: ds | .d1 :: ds => .d2 :: ds | .d2 :: ds => .d3 :: ds | .d3 :: ds => .d4 :: ds
  | .d4 :: ds => .d5 :: ds | .d5 :: ds => .d6 :: ds | .d6 :: ds => .d7 :: ds | .d7 :: ds => .d0 :: incr ds
def D8.num : D8 → Nat
  | .d0 => 0 | .d1 => 1 | .d2 => 2 | .d3 => 3 | .d4 => 4 | .d5 => 5 | .d6 => 6 | .d7 => 7
def Key.same : Key → Key → Bool
  | [], [] => true
  | a :: x, b :: y => cond (Nat.beq a.num b.num) (Key.same x y) false
  | _, _ => false
inductive ACap where
  | is (n : Nat)
  | more (size : Nat)
inductive AFn where
  | func (f : Nat) | yield (l : Key)
inductive AV where
  | bool (b : Bool) | int (k : IntKind) (n : Int) | float (k : FloatKind) (bits : Nat)
  | str (len code : Nat)
  | nilPtr | ptr (b : Key) (off : Nat)
  | nilSlice | emptyS | slice (b : Key) (off len : Nat) (cap : ACap)
  | nilMap | map (b : Key)
  | func (f : AFn) (first captured : List AV) | nilFunc
  | iface (t : Nat) (v : AV) | nilIface
  | agg (cs : List AV) | tup (vs : List AV)
  | undef | junk
structure ADef where
  fn : AFn
  captured : List AV
  args : List AV
inductive Slots where
  | mk (n : Nat) (t : RT AV)
inductive AObj where
  | cells (elem : Nat) (cs : List AV) (opn : Bool) (fz : Nat)
  | fixed (elem : Nat) (cs : List AV)
  | dead
  | map (es : List (AV × AV × Nat)) (clock : Nat)
  | siter (len code pos : Nat)
  | miter (m : Option Key) (since : Nat) (seen : List Nat) (stepped : Nat)
  | loop (st : LoopState) (pending : Option Code) (fn : Nat) (tmps : Slots) (params : List Nat) (assign body : Code) (defers : Key)
  | deferred (ds : List ADef)
inductive Heap where
  | mk (t : RT AObj) (next : Key)
inductive Res where
  | val (v : AV) (h : Heap)
  | enter (f : Nat) (args : List AV) (h : Heap)
  | round (l : Key) (args : List AV) (h : Heap)
  | defer (d : ADef) (h : Heap)
  | recover (h : Heap)
  | pan (v : AV) (h : Heap)
  | alts (l : List (AV × Heap))
  | bad (why : String)
noncomputable def Heap.get (h : Heap) (b : Key) : Option AObj := Heap.rec (motive := fun _ => Option AObj) (fun t _ => t.get b) h
noncomputable def Heap.put (h : Heap) (b : Key) (o : AObj) : Heap := Heap.rec (motive := fun _ => Heap) (fun t n => .mk (t.set o b) n) h
noncomputable def Heap.allocT (t : RT AObj) (n : Key) (o : AObj) (k : Key → Heap → Res) : Res := Option.rec (motive := fun _ => Res) (k n (.mk (t.set o n) (incr n))) (fun _ => .bad "key") (t.get n)
noncomputable def Heap.alloc (h : Heap) (o : AObj) (k : Key → Heap → Res) : Res := Heap.rec (motive := fun _ => Res) (fun t n => Heap.allocT t n o k) h
def bytesCode : List UInt8 → Nat
  | [] => 0
  | b :: r => b.toNat + 256 * bytesCode r
mutual
def ofVal : Value → Option AV
  | .bool b => some (.bool b)
  | .int k n => some (.int k n)
  | .float k b => some (.float k b)
  | .string s => some (.str s.data.toList.length (bytesCode s.data.toList))
  | .pointer none => some .nilPtr
  | .slice none 0 0 => some .nilSlice
  | .map none => some .nilMap
  | .nilFunc => some .nilFunc
  | .nilIface => some .nilIface
  | .agg ⟨cs⟩ => (ofVals cs).map .agg
  | .tuple ⟨[]⟩ => some .undef
  | _ => none
def ofVals : List Value → Option (List AV)
  | [] => some []
  | v :: r => match ofVal v, ofVals r with
    | some a, some b => some (a :: b)
    | _, _ => none
end
def AV.cells (v : AV) : List AV := match v with
  | .agg cs => cs
  | v => [v]
def AV.sure (v : AV) : Bool := match v with
  | .junk => false
  | _ => true
noncomputable def getD (o : Option AV) : AV := Option.rec (motive := fun _ => AV) .undef (fun v => v) o
noncomputable def getJ (o : Option AV) : AV := Option.rec (motive := fun _ => AV) .junk (fun v => v) o
noncomputable def Slots.get (T : Slots) (t : Nat) : AV := Slots.rec (motive := fun _ => AV) (fun _ r => getJ (r.get (keyOf t))) T
def gkey (g : Nat) : Key := [D8.ofNat (g % 8), D8.ofNat (g / 8), .d0, .d0, .d0, .d0]
noncomputable def globA (P : Program) (g : Nat) : AV := cond (Nat.blt g P.globals.size) (.ptr (gkey g) 0) .junk
noncomputable def ev (P : Program) (T : Slots) (x : Operand) : AV := Operand.rec (motive := fun _ => AV) (fun t => T.get t) (fun v => getJ (ofVal v)) (fun g => globA P g) (fun f => .func (.func f) [] []) x
noncomputable def evs (P : Program) (T : Slots) (xs : List Operand) : List AV := List.rec (motive := fun _ => List AV) [] (fun x _ ih => ev P T x :: ih) xs
noncomputable def evps (P : Program) (T : Slots) (xs : List (Nat × Operand)) : List (Nat × AV) := List.rec (motive := fun _ => List (Nat × AV)) [] (fun x _ ih => (x.1, ev P T x.2) :: ih) xs
noncomputable def okv (x : Option AV) (h : Heap) (why : String) : Res := Option.rec (motive := fun _ => Res) (.bad why) (fun v => .val v h) x
def take {α : Type} : Nat → List α → List α
  | 0, _ => []
  | _ + 1, [] => []
  | n + 1, x :: r => x :: take n r
noncomputable def drop {α : Type} (n : Nat) (l : List α) : List α := Nat.rec (motive := fun _ => List α → List α) (fun l => l) (fun _ ih l => List.rec (motive := fun _ => List α) [] (fun _ r _ => ih r) l) n l
noncomputable def hd {α : Type} (l : List α) : Option α := List.rec (motive := fun _ => Option α) none (fun x _ _ => some x) l
def len {α : Type} : List α → Nat
  | [] => 0
  | _ :: r => Nat.succ (len r)
section
variable (P : Program)
def szOf (t : Nat) : Nat := ((P.info? t).map (·.size)).getD 0
def isAggT (t : Nat) : Bool := match P.underlying t with | some (.struct _) | some (.array _ _) => true | _ => false
def known (t : Nat) : Bool := (P.underlying t).isSome
def posT (t : Nat) : Bool := not (Nat.beq (szOf P t) 0)
def isByteT (t : Nat) : Bool := match P.underlying t with | some (.int .u8) => true | _ => false
def bytesOf (t : Nat) : Nat := ((P.info? t).map (·.bytes)).getD 0
def zeroOf (t : Nat) : Option AV := ((P.info? t).bind (·.zero)).bind ofVal
def cat {α : Type} : List α → List α → List α
  | [], l => l
  | x :: r, l => x :: cat r l
noncomputable def splice (cs : List AV) (off : Nat) (vs : List AV) : List AV := cat (take off cs) (cat vs (drop (off + len vs) cs))
noncomputable def partOf (agg : Bool) (size off : Nat) (cs : List AV) : Option AV :=
  cond agg (cond (Nat.ble (off + size) (len cs)) (some (.agg (take size (drop off cs)))) none) (hd (drop off cs))
noncomputable def partT (t off : Nat) (cs : List AV) : Option AV := cond (known P t) (partOf (isAggT P t) (szOf P t) off cs) none
noncomputable def fillA (place : Nat → Option (Nat × Nat)) (cs : List AV) : List (Nat × AV) → Option (List AV)
  | [] => some cs
  | (i, v) :: rest =>
    match place i with
    | none => none
    | some (off, size) => cond (and v.sure (and (Nat.beq (len v.cells) size) (Nat.ble (off + size) (len cs)))) (fillA place (splice cs off v.cells) rest) none
def rep (n : Nat) (zs : List AV) : List AV := match n with | 0 => [] | n + 1 => cat zs (rep n zs)
def subStr (code lo n : Nat) : Nat := Nat.mod (Nat.shiftRight code (8 * lo)) (2 ^ (8 * n))
def strLess : Nat → Nat → Nat → Nat → Nat → Bool
  | 0, la, _, lb, _ => Nat.blt la lb
  | n + 1, la, a, lb, b =>
    cond (Nat.beq lb 0) false (cond (Nat.beq la 0) true
    (cond (Nat.blt (a % 256) (b % 256)) true (cond (Nat.blt (b % 256) (a % 256)) false
    (strLess n (la - 1) (a / 256) (lb - 1) (b / 256)))))
def scalar : AV → Option Value
  | .bool b => some (.bool b)
  | .int k n => some (.int k n)
  | .float k b => some (.float k b)
  | _ => none
def semPure {α : Type} : Sem α → Option α
  | .pure a => some a
  | .program k => semPure (k P)
  | .mark _ k => semPure k
  | _ => none
def eqFields (_rec : Nat → AV → AV → Option Bool) : List Field → List AV → List AV → Option Bool
  | [], _, _ => some true
  | _f :: _fs, _xs, _ys => some true
noncomputable def forceN {α : Type} (n : Nat) (k : Nat → α) : α := Nat.rec (motive := fun _ => α) (k 0) (fun m _ => k (Nat.succ m)) n
noncomputable def forceI {α : Type} (n : Int) (k : Int → α) : α := Int.rec (motive := fun _ => α) (fun a => forceN a (fun a => k (Int.ofNat a))) (fun a => forceN a (fun a => k (Int.negSucc a))) n
noncomputable def intV (k : IntKind) (n : Int) (h : Heap) : Res := forceI n (fun n => .val (.int k n) h)
noncomputable def boolV (b : Bool) (h : Heap) : Res := Bool.rec (motive := fun _ => Res) (.val (.bool false) h) (.val (.bool true) h) b
noncomputable def strV (l c : Nat) (h : Heap) : Res := forceN l (fun l => forceN c (fun c => cond (Nat.ble l 1000000) (.val (.str l c) h) (.bad "long")))
def intEq (a b : Int) : Bool := match a, b with
  | .ofNat a, .ofNat b => Nat.beq a b
  | .negSucc a, .negSucc b => Nat.beq a b
  | _, _ => false
def intLt (a b : Int) : Bool := match a, b with
  | .ofNat a, .ofNat b => Nat.blt a b
  | .negSucc _, .ofNat _ => true
  | .ofNat _, .negSucc _ => false
  | .negSucc a, .negSucc b => Nat.blt b a
def kindNo : IntKind → Nat
  | .i8 => 0 | .i16 => 1 | .i32 => 2 | .i64 => 3 | .u8 => 4 | .u16 => 5 | .u32 => 6 | .u64 => 7
noncomputable def eqFieldsA (rc : Nat → AV → AV → Option Bool) (xs ys : List AV) : List Field → Option Bool
  | [] => some true
  | f :: fs => cond (f.name == "_") (eqFieldsA rc xs ys fs) (match partT P f.type f.offset xs, partT P f.type f.offset ys with
    | some a, some b => (match rc f.type a b with | some true => eqFieldsA rc xs ys fs | r => r)
    | _, _ => none)
noncomputable def liveA (h : Heap) (b : Key) : Bool := match h.get b with
  | some (.cells _ _ o fz) => cond o false (Nat.beq fz 0)
  | _ => false
noncomputable def eqPtr (h : Heap) (a : Key) (o : Nat) (b : Key) (q : Nat) : Option Bool :=
  cond (Key.same a b) (some (Nat.beq o q)) (cond (liveA h a) (cond (liveA h b) (some false) none) none)
noncomputable def eqA (h : Heap) : Nat → Nat → AV → AV → Option Bool
  | 0, _, _, _ => none
  | d + 1, t, x, y =>
    match P.underlying t with
    | some .bool => (match x, y with | .bool a, .bool b => some (a == b) | _, _ => none)
    | some (.int _) => (match x, y with | .int k a, .int k' b => cond (Nat.beq (kindNo k) (kindNo k')) (some (intEq a b)) none | _, _ => none)
    | some (.float _) => (match x, y with | .float .f64 a, .float .f64 b => some (Op.floatEq .f64 a b) | _, _ => none)
    | some .string => (match x, y with | .str la a, .str lb b => some (cond (Nat.beq la lb) (Nat.beq a b) false) | _, _ => none)
    | some (.pointer e) => (match x, y with
      | .nilPtr, .nilPtr => some true
      | .nilPtr, .ptr _ _ => some false
      | .ptr _ _, .nilPtr => some false
      | .ptr a o, .ptr b q => cond (Nat.beq (szOf P e) 0) none (eqPtr h a o b q)
      | _, _ => none)
    | some (.interface _) => (match x, y with
      | .nilIface, .nilIface => some true
      | .nilIface, .iface _ _ => some false
      | .iface _ _, .nilIface => some false
      | .iface ta a, .iface tb b => cond (Nat.beq ta tb) (cond (((P.info? ta).map (·.comparable)).getD false) (eqA h d ta a b) none) (some false)
      | _, _ => none)
    | some (.slice _) => (match x, y with
      | .nilSlice, .nilSlice => some true
      | .nilSlice, .slice .. => some false
      | .nilSlice, .emptyS => some false
      | .slice .., .nilSlice => some false
      | .emptyS, .nilSlice => some false
      | _, _ => none)
    | some (.map _ _) => (match x, y with | .nilMap, .nilMap => some true | .nilMap, .map _ => some false | .map _, .nilMap => some false | _, _ => none)
    | some (.func _ _ _) => (match x, y with | .nilFunc, .nilFunc => some true | .nilFunc, .func .. => some false | .func .., .nilFunc => some false | _, _ => none)
    | some (.struct fs) => (match x, y with | .agg xs, .agg ys => cond (P.stoodInHeld t) none (eqFieldsA P (eqA h d) xs ys fs.toList) | _, _ => none)
    | _ => none
noncomputable def guardEq (cst : Bool) (t : Nat) (x : AV) : Bool := match x with
  | .nilIface => cond cst true (match P.underlying t with | some (.interface ms) => ms.isEmpty | _ => false)
  | .agg _ => not (P.eqGuardType P.depth t)
  | _ => true
noncomputable def okb (x : Option Bool) (h : Heap) : Res := Option.rec (motive := fun _ => Res) (.bad "==") (fun v => boolV v h) x
noncomputable def oknb (x : Option Bool) (h : Heap) : Res := Option.rec (motive := fun _ => Res) (.bad "!=") (fun v => boolV (not v) h) x
noncomputable def binStr (op : BinOp) (la a lb b : Nat) (h : Heap) : Res := match op with
  | .add => strV (la + lb) (a + Nat.shiftLeft b (8 * la)) h
  | .eql => boolV (cond (Nat.beq la lb) (Nat.beq a b) false) h
  | .neq => boolV (not (cond (Nat.beq la lb) (Nat.beq a b) false)) h
  | .lss => boolV (strLess (la + lb + 1) la a lb b) h
  | .gtr => boolV (strLess (la + lb + 1) lb b la a) h
  | .leq => boolV (not (strLess (la + lb + 1) lb b la a)) h
  | .geq => boolV (not (strLess (la + lb + 1) la a lb b)) h
  | _ => .bad "binStr"
def inI64 (n : Int) : Bool := match n with | .ofNat a => Nat.blt a 9223372036854775808 | .negSucc a => Nat.blt a 9223372036854775808
noncomputable def scalV (v : Option Value) (h : Heap) (why : String) : Res := match v with
  | some (.int k n) => intV k n h
  | some (.bool b) => boolV b h
  | some (.float k b) => forceN b (fun b => .val (.float k b) h)
  | _ => .bad why
noncomputable def binIntS (op : BinOp) (t : Nat) (k : IntKind) (a : Int) (k' : IntKind) (b : Int) (h : Heap) : Res := scalV (semPure P (binOp op t (.int k a) (.int k' b))) h "binInt"
noncomputable def arI64 (op : BinOp) (t : Nat) (k : IntKind) (a : Int) (k' : IntKind) (b : Int) (h : Heap) (r : Int) : Res :=
  IntKind.casesOn (motive := fun _ => Res) k (binIntS P op t k a k' b h) (binIntS P op t k a k' b h) (binIntS P op t k a k' b h) (cond (inI64 r) (intV .i64 r h) (binIntS P op t k a k' b h)) (binIntS P op t k a k' b h) (binIntS P op t k a k' b h) (binIntS P op t k a k' b h) (binIntS P op t k a k' b h)
noncomputable def binIntQ (op : BinOp) (t : Nat) (k : IntKind) (a : Int) (k' : IntKind) (b : Int) (h : Heap) : Res := BinOp.casesOn (motive := fun _ => Res) op
  (arI64 P op t k a k' b h (a + b)) (arI64 P op t k a k' b h (a - b)) (binIntS P op t k a k' b h) (binIntS P op t k a k' b h) (binIntS P op t k a k' b h) (binIntS P op t k a k' b h) (binIntS P op t k a k' b h) (binIntS P op t k a k' b h)
  (binIntS P op t k a k' b h) (binIntS P op t k a k' b h) (binIntS P op t k a k' b h)
  (boolV (intEq a b) h) (boolV (not (intEq a b)) h) (boolV (intLt a b) h) (boolV (not (intLt b a)) h) (boolV (intLt b a) h) (boolV (not (intLt a b)) h)
noncomputable def binInt (op : BinOp) (t : Nat) (k : IntKind) (a : Int) (k' : IntKind) (b : Int) (h : Heap) : Res :=
  cond (Nat.beq (kindNo k) (kindNo k')) (binIntQ P op t k a k' b h) (binIntS P op t k a k' b h)
noncomputable def binOther (op : BinOp) (t : Nat) (cst : Bool) (x y : AV) (h : Heap) : Res := match op with
  | .eql => cond (guardEq P cst t x) (okb (eqA P h 50 t x y) h) (.bad "==")
  | .neq => cond (guardEq P cst t x) (oknb (eqA P h 50 t x y) h) (.bad "!=")
  | op => match scalar x, scalar y with
    | some a, some b => scalV (semPure P (binOp op t a b)) h "binOp"
    | _, _ => .bad "binOp"
noncomputable def xBin (op : BinOp) (t : Nat) (cst : Bool) (x y : AV) (h : Heap) : Res :=
  match x with
  | .int k a => (match y with | .int k' b => binInt P op t k a k' b h | _ => .bad "binOp int")
  | .str la a => (match y with | .str lb b => binStr op la a lb b h | _ => .bad "binOp str")
  | .float k a => (match y with | .float k' b => scalV (semPure P (binOp op t (.float k a) (.float k' b))) h "binOp float" | _ => .bad "binOp float")
  | x => binOther P op t cst x y h
def AV.one : AV → Bool
  | .agg _ => false | .tup _ => false | .undef => false | .junk => false
  | _ => true
def allOne : List AV → Bool
  | [] => true
  | v :: r => cond v.one (allOne r) false
noncomputable def cellsOf (o : Option AObj) : Option (List AV) := Option.rec (motive := fun _ => Option (List AV)) none (fun o => AObj.casesOn (motive := fun _ => Option (List AV)) o (fun _ cs _ _ => some cs) (fun _ cs => some cs) none (fun _ _ => none) (fun _ _ _ => none) (fun _ _ _ _ => none) (fun _ _ _ _ _ _ _ _ => none) (fun _ => none)) o
noncomputable def cellsAt (h : Heap) (b : Key) (off n : Nat) : Option (List AV) :=
  Option.rec (motive := fun _ => Option (List AV)) none (fun cs => cond (Nat.beq (len (take n (drop off cs))) n) (some (take n (drop off cs))) none) (cellsOf (h.get b))
noncomputable def cellAt (h : Heap) (b : Key) (off : Nat) : Option AV := Option.rec (motive := fun _ => Option AV) none (fun cs => hd (drop off cs)) (cellsOf (h.get b))
noncomputable def setCells (h : Heap) (b : Key) (off : Nat) (vs : List AV) : Option Heap :=
  match h.get b with
  | some (.cells e cs o fz) => cond (Nat.ble (off + len vs) (len cs)) (cond (allOne vs) (cond (Nat.ble fz off) (some (h.put b (.cells e (splice cs off vs) o fz))) none) none) none
  | _ => none
def bytesOfA : Nat → Nat → List AV
  | 0, _ => []
  | n + 1, c => .int .u8 (Int.ofNat (c % 256)) :: bytesOfA n (c / 256)
noncomputable def sliceCells (h : Heap) (size : Nat) (k : Nat → List AV → Res) (v : AV) : Res := match v with
  | .nilSlice => k 0 []
  | .emptyS => k 0 []
  | .slice b off len _ => (match cellsAt h b off (len * size) with | some cs => k len cs | none => .bad "sliceCells")
  | .str len code => cond (Nat.beq size 1) (k len (bytesOfA len code)) (.bad "sliceCells")
  | _ => .bad "sliceCells"
noncomputable def findKeyA (h : Heap) (kt : Nat) (k : AV) : List (AV × AV × Nat) → Option (Option AV)
  | [] => some none
  | (k', v, _) :: r => match eqA P h 50 kt k k' with
    | some true => some (some v)
    | some false => findKeyA h kt k r
    | none => none
noncomputable def setKeyA (h : Heap) (kt : Nat) (k v : AV) (clock : Nat) : List (AV × AV × Nat) → Option (List (AV × AV × Nat) × Bool)
  | [] => some ([(k, v, clock)], true)
  | (k', v', c) :: r => match eqA P h 50 kt k k' with
    | some true => some ((k, v, c) :: r, false)
    | some false => (match setKeyA h kt k v clock r with | some (l, n) => some ((k', v', c) :: l, n) | none => none)
    | none => none
noncomputable def delKeyA (h : Heap) (kt : Nat) (k : AV) : List (AV × AV × Nat) → Option (List (AV × AV × Nat))
  | [] => some []
  | (k', v', c) :: r => match eqA P h 50 kt k k' with
    | some true => some r
    | some false => (match delKeyA h kt k r with | some l => some ((k', v', c) :: l) | none => none)
    | none => none
noncomputable def grown (h : Heap) (elem size : Nat) (cs : List AV) (n fz : Nat) : Res := cond (and (Nat.ble (n * bytesOf P elem) 1000000000) (Nat.ble n 1000000000)) (h.alloc (.cells elem cs true fz) (fun b h => forceN n (fun n => .val (.slice b 0 n (.more size)) h))) (.bad "append: long")
def allSure : List AV → Bool
  | [] => true
  | v :: r => cond v.one (allSure r) false
noncomputable def cellsOfW (o : Option AObj) : Option (List AV) := match o with
  | some (.cells _ cs _ _) => some cs
  | _ => none
noncomputable def inPlace (h : Heap) (b : Key) (at_ : Nat) (news : List AV) (v : AV) : Res := match setCells h b at_ news with | some h => .val v h | none => .bad "append in place"
noncomputable def fzElem (o : Option AObj) : Option (Nat × Nat) := match o with
  | some (.cells e _ _ fz) => some (e, fz)
  | _ => none
noncomputable def growMore (h : Heap) (elem size : Nat) (b : Key) (off len n : Nat) (news cs : List AV) (x : Option (Nat × Nat)) : Res := match x with
  | some (el, fz) => cond (and (Nat.beq el elem) (Nat.ble fz (off + len * size))) (forceN (fz - off) (fun fz => grown P (h.put b .dead) elem size (cat (take (len * size) (drop off cs)) news) (len + n) fz)) (.bad "append frozen")
  | none => .bad "append dead"
noncomputable def appendS (h : Heap) (elem size : Nat) (b : Key) (off len : Nat) (cap : ACap) (n : Nat) (news cs : List AV) : Res := match cap with
  | .is c => cond (Nat.ble (len + n) c) (inPlace h b (off + len * size) news (.slice b off (len + n) (.is c))) (grown P h elem size (cat (take (len * size) (drop off cs)) news) (len + n) 0)
  | .more sz => cond (Nat.beq sz size) (cond (Nat.ble (off + (len + n) * size) (VM.len cs)) (inPlace h b (off + len * size) news (.slice b off (len + n) (.more sz)))
      (growMore P h elem size b off len n news cs (fzElem (h.get b)))) (.bad "append size")
def roomFor (len : Nat) (cap : ACap) : Bool := match cap with
  | .is c => Nat.ble len c
  | .more _ => true
noncomputable def appendA (h : Heap) (elem size : Nat) (s : AV) (n : Nat) (news : List AV) : Res :=
  match s with
  | .nilSlice => cond (Nat.beq n 0) (.val .nilSlice h) (cond (allSure news) (grown P h elem size news n 0) (.bad "append"))
  | .slice b off len cap => cond (Nat.beq n 0) (cond (roomFor len cap) (.val s h) (.bad "append")) (match cellsOfW (h.get b) with | some cs => cond (Nat.ble (off + len * size) (VM.len cs)) (cond (allSure news) (appendS P h elem size b off len cap n news cs) (.bad "append")) (.bad "append len") | none => .bad "append dead")
  | _ => .bad "append"
def boundsA (x : Option AV) (dflt most : Nat) : Option Nat :=
  match x with
  | none => some dflt
  | some (.int _ (.ofNat n)) => cond (Nat.ble n most) (some n) none
  | _ => none
noncomputable def xAlloc (elem : Nat) (h : Heap) : Res := match zeroOf P elem with
    | some z => h.alloc (.cells elem z.cells false 0) (fun b h => .val (.ptr b 0) h)
    | none => .bad "alloc"
noncomputable def xBox (elem : Nat) (v : AV) (h : Heap) : Res := cond v.sure (h.alloc (.cells elem v.cells false 0) (fun b h => .val (.ptr b 0) h)) (.bad "box")
def fieldsKnown : List Field → Bool
  | [] => true
  | f :: r => cond (P.info? f.type).isSome (fieldsKnown r) false
noncomputable def xBuild (t : Nat) (ps : List (Nat × AV)) (h : Heap) : Res := match zeroOf P t with
  | some z => (match P.underlying t with
    | some (.struct fs) => cond (fieldsKnown P fs.toList) (okv ((fillA (fun i => (hd (drop i fs.toList)).map fun f => (f.offset, szOf P f.type)) z.cells ps).map .agg) h "build") (.bad "build")
    | some (.array _ e) => cond (P.info? e).isSome (okv ((fillA (fun i => some (i * szOf P e, szOf P e)) z.cells ps).map .agg) h "build") (.bad "build")
    | _ => .bad "build")
  | none => .bad "build"
noncomputable def xBuildSlice (t n : Nat) (ps : List (Nat × AV)) (h : Heap) : Res := match P.underlying t with
    | some (.slice e) =>
      (match zeroOf P e with
      | some z => cond (and (Nat.beq (len z.cells) (szOf P e)) (Nat.ble (n * szOf P e) 16777216)) (match fillA (fun i => some (i * szOf P e, szOf P e)) (rep n z.cells) ps with
        | some cs => h.alloc (.cells e cs false 0) (fun b h => .val (.slice b 0 n (.is n)) h)
        | none => .bad "buildSlice fill") (.bad "buildSlice size")
      | none => .bad "buildSlice zero")
    | _ => .bad "buildSlice"
noncomputable def xLoad (t : Nat) (a : AV) (h : Heap) : Res := match a with
    | .ptr b off => cond (isAggT P t) (okv ((cellsAt h b off (szOf P t)).map .agg) h "load agg") (cond (known P t) (okv (cellAt h b off) h "load") (.bad "load type"))
    | _ => .bad "load: no ptr"
noncomputable def xStore (t : Nat) (a x : AV) (h : Heap) : Res := match a with
    | .ptr b off => cond (and (known P t) (Nat.beq (len x.cells) (szOf P t))) (match setCells h b off x.cells with | some h => .val .undef h | none => .bad "store") (.bad "store size")
    | _ => .bad "store: no ptr"
noncomputable def xNil (v : AV) (h : Heap) : Res := match v with
  | .nilPtr => .bad "nil"
  | .nilFunc => .bad "nil"
  | .nilIface => .bad "nil"
  | .undef => .bad "undef"
  | .junk => .bad "junk"
  | v => .val v h
noncomputable def xUn (op : UnOp) (v : AV) (h : Heap) : Res := match op, v with
    | .not, .bool b => boolV (not b) h
    | op, v => match scalar v with | some a => scalV (semPure P (Op.unary op a)) h "unOp" | none => .bad "unOp"
def allByte : List AV → Bool
  | [] => true
  | .int .u8 (.ofNat n) :: r => cond (Nat.blt n 256) (allByte r) false
  | _ => false
noncomputable def codeOfCells : List AV → Nat
  | [] => 0
  | .int _ (.ofNat n) :: r => n + 256 * codeOfCells r
  | _ :: r => 256 * codeOfCells r
def isStrT (t : Nat) : Bool := match P.underlying t with | some .string => true | _ => false
noncomputable def xConvStr (src dst l c : Nat) (h : Heap) : Res := match P.underlying dst with
    | some .string => cond (known P src) (.val (.str l c) h) (.bad "convert str")
    | some (.slice e) => cond (and (isByteT P e) (isStrT P src)) (h.alloc (.cells e (bytesOfA l c) true 0) (fun b h => .val (.slice b 0 l (.more 1)) h)) (.bad "convert str")
    | _ => .bad "convert str"
noncomputable def xConvPtr (src dst : Nat) (b : Key) (off : Nat) (h : Heap) : Res := match h.get b with
    | some (.cells e cs false 0) => (match P.underlying src, P.underlying dst with
      | some (.pointer t), some .unsafePointer => cond (and (Nat.blt off (len cs)) (not (Nat.beq (szOf P t) 0))) (.val (.ptr b off) h) (.bad "unsafe")
      | some .unsafePointer, some (.pointer u) => cond (and (posT P u) (liesAt P P.depth e (len cs / P.cellsOf e) off u 1)) (.val (.ptr b off) h) (.bad "unsafe")
      | _, _ => .bad "convert ptr")
    | _ => .bad "convert ptr"
noncomputable def xConvSl (src dst : Nat) (v : AV) (h : Heap) : Res := match P.underlying src, P.underlying dst with
    | some (.slice e), some .string => cond (isByteT P e) (sliceCells h 1 (fun l cs => cond (allByte cs) (strV l (codeOfCells cs) h) (.bad "bytes")) v) (.bad "convert")
    | _, _ => .bad "convert"
noncomputable def xConvert (src dst : Nat) (v : AV) (h : Heap) : Res := match v with
  | .int k n => scalV (semPure P (Go.convert src dst (.int k n))) h "convert"
  | .float k n => scalV (semPure P (Go.convert src dst (.float k n))) h "convert"
  | .str l c => xConvStr P src dst l c h
  | .ptr b off => xConvPtr P src dst b off h
  | v => xConvSl P src dst v h
noncomputable def xMakeSlice (t : Nat) (l c : AV) (h : Heap) : Res := match P.underlying t, l, c with
    | some (.slice e), .int _ (.ofNat l), .int _ (.ofNat c) =>
      (match zeroOf P e with
      | some z => cond (and (and (Nat.ble l c) (Nat.beq (len z.cells) (szOf P e))) (and (Nat.ble c 1000000) (Nat.ble (bytesOf P e) 1000000))) (h.alloc (.cells e (rep c z.cells) false 0) (fun b h => .val (.slice b 0 l (.is c)) h)) (.bad "makeSlice")
      | none => .bad "makeSlice")
    | _, _, _ => .bad "makeSlice"
noncomputable def bnd (x : Option AV) (dflt most : Nat) (k : Nat → Res) : Res := match boundsA x dflt most with | some n => k n | none => .bad "slice bounds"
noncomputable def sliceIs (size : Nat) (b : Key) (off len c : Nat) (lo hi mx : Option AV) (h : Heap) : Res := cond (and mx.isSome hi.isNone) (.bad "slice: max without high") <|
  bnd mx c c (fun m => bnd hi (match mx with | none => len | some _ => 0) m (fun hi => bnd lo 0 hi (fun l => forceN (cond (Nat.beq m l) off (off + l * size)) (fun o => forceN (hi - l) (fun n => forceN (m - l) (fun c => .val (.slice b o n (.is c)) h))))))
noncomputable def sliceMore (size : Nat) (b : Key) (off len : Nat) (lo hi : Option AV) (h : Heap) : Res :=
  bnd hi len len (fun hi => bnd lo 0 hi (fun l => cond (Nat.beq l 0) (.val (.slice b off hi (.more size)) h) (cond (Nat.blt l len) (forceN (off + l * size) (fun o => forceN (hi - l) (fun n => .val (.slice b o n (.more size)) h))) (.val .emptyS h))))
noncomputable def xSlice (t : Nat) (v : AV) (lo hi mx : Option AV) (h : Heap) : Res := match v with
    | .str len code => (match P.underlying t, mx with
      | some .string, none => bnd hi len len (fun hi => bnd lo 0 hi (fun l => strV (hi - l) (subStr code l (hi - l)) h))
      | _, _ => .bad "slice str")
    | .nilSlice => (match P.underlying t, mx with
      | some (.slice e), none => cond (not (posT P e)) (.bad "slice") <| bnd hi 0 0 (fun _ => bnd lo 0 0 (fun _ => .val .nilSlice h))
      | _, _ => .bad "slice")
    | .emptyS => (match P.underlying t, mx with
      | some (.slice e), none => cond (not (posT P e)) (.bad "slice") <| bnd hi 0 0 (fun _ => bnd lo 0 0 (fun _ => .val .emptyS h))
      | _, _ => .bad "slice")
    | .slice b off len cap => (match P.underlying t with
      | some (.slice e) => (match cap with
        | .is c => cond (posT P e) (sliceIs (szOf P e) b off len c lo hi mx h) (.bad "slice")
        | .more sz => (match mx with | none => cond (and (posT P e) (Nat.beq sz (szOf P e))) (sliceMore sz b off len lo hi h) (.bad "slice size") | some _ => .bad "slice max open"))
      | _ => .bad "slice")
    | .ptr b off => (match P.underlying t with
      | some (.array n e) => cond (posT P e) (sliceIs (szOf P e) b off n n lo hi mx h) (.bad "slice")
      | _ => .bad "slice")
    | _ => .bad "slice"
noncomputable def fieldOf (s f : Nat) : Option Field := match P.underlying s with | some (.struct fs) => hd (drop f fs.toList) | _ => none
noncomputable def offOf (s f : Nat) : Nat := ((fieldOf P s f).map (·.offset)).getD 0
noncomputable def okField (s f : Nat) : Bool := match fieldOf P s f with | some fd => not (Nat.beq (szOf P fd.type) 0) | none => false
noncomputable def xFieldAddr (s f : Nat) (v : AV) (h : Heap) : Res := match v with
    | .ptr b off => cond (okField P s f) (forceN (off + offOf P s f) (fun o => .val (.ptr b o) h)) (.bad "fieldAddr")
    | _ => .bad "fieldAddr"
noncomputable def xField (s f : Nat) (v : AV) (h : Heap) : Res := match v with
    | .agg cs => (match fieldOf P s f with | some fd => okv (partT P fd.type fd.offset cs) h "field" | none => .bad "field")
    | _ => .bad "field"
noncomputable def idx (x : AV) (k : Nat → Res) : Res := match x with | .int _ (.ofNat n) => k n | _ => .bad "index"
noncomputable def xIndexAddr (t : Nat) (v i : AV) (h : Heap) : Res := idx i (fun i => match v with
    | .slice b off n _ => cond (Nat.blt i n) (match P.underlying t with | some (.slice e) => cond (posT P e) (forceN (off + i * szOf P e) (fun o => .val (.ptr b o) h)) (.bad "indexAddr") | _ => .bad "indexAddr") (.bad "indexAddr bounds")
    | .ptr b off => (match P.underlying t with
      | some (.array n e) => cond (and (posT P e) (Nat.blt i n)) (forceN (off + i * szOf P e) (fun o => .val (.ptr b o) h)) (.bad "indexAddr bounds")
      | _ => .bad "indexAddr")
    | _ => .bad "indexAddr")
noncomputable def xIndex (t : Nat) (v i : AV) (h : Heap) : Res := idx i (fun i => match v with
    | .str n code => cond (Nat.blt i n) (forceN (Nat.mod (Nat.shiftRight code (8 * i)) 256) (fun c => .val (.int .u8 (Int.ofNat c)) h)) (.bad "index bounds")
    | .agg cs => (match P.underlying t with
      | some (.array n e) => cond (Nat.blt i n) (okv (partT P e (i * szOf P e) cs) h "index") (.bad "index bounds")
      | _ => .bad "index")
    | _ => .bad "index")
noncomputable def xLookupIn (kt et : Nat) (es : List (AV × AV × Nat)) (k : AV) (cok : Bool) (h : Heap) : Res := match findKeyA P h kt k es with
        | some (some v) => .val (cond cok (.tup [v, .bool true]) v) h
        | some none => (match zeroOf P et with
          | some z => .val (cond cok (.tup [z, .bool false]) z) h
          | none => .bad "lookup zero")
        | none => .bad "lookup key"
noncomputable def keyT (kt : Nat) : Bool := match P.underlying kt with | some (.int _) => true | some .string => true | some .bool => true | some (.pointer _) => true | _ => false
noncomputable def xLookup (t : Nat) (m k : AV) (cok : Bool) (h : Heap) : Res := match P.underlying t with
    | some (.map kt et) => cond (keyT P kt) (match m with
      | .nilMap => xLookupIn P kt et [] k cok h
      | .map m => (match h.get m with | some (.map es _) => xLookupIn P kt et es k cok h | _ => .bad "lookup map")
      | _ => .bad "lookup") (.bad "lookup key type")
    | _ => .bad "lookup"
noncomputable def xMapUpdate (t : Nat) (m k v : AV) (h : Heap) : Res := match P.underlying t, m with
    | some (.map kt _), .map b => cond (keyT P kt) (match h.get b with
      | some (.map es clock) => (match setKeyA P h kt k v clock es with
        | some (es, true) => .val .undef (h.put b (.map es (clock + 1)))
        | some (es, false) => .val .undef (h.put b (.map es clock))
        | none => .bad "mapUpdate key")
      | _ => .bad "mapUpdate") (.bad "mapUpdate key type")
    | _, _ => .bad "mapUpdate"
noncomputable def xRange (v : AV) (h : Heap) : Res := match v with
    | .str len code => h.alloc (.siter len code 0) (fun b h => .val (.ptr b 0) h)
    | .nilMap => h.alloc (.miter none 0 [] 0) (fun b h => .val (.ptr b 0) h)
    | .map m => (match h.get m with
      | some (.map _ clock) => h.alloc (.miter (some m) clock [] clock) (fun b h => .val (.ptr b 0) h)
      | _ => .bad "range")
    | _ => .bad "range"
def unseen (seen : List Nat) : List (AV × AV × Nat) → List (AV × AV × Nat)
  | [] => []
  | e :: r => cond (seen.any (fun n => Nat.beq n e.2.2)) (unseen seen r) (e :: unseen seen r)
def anyOld (last : Nat) : List (AV × AV × Nat) → Bool
  | [] => false
  | e :: r => cond (Nat.blt e.2.2 last) true (anyOld last r)
def allOld (since : Nat) : List (AV × AV × Nat) → Bool
  | [] => true
  | e :: r => cond (Nat.blt e.2.2 since) (allOld since r) false
noncomputable def altsOf (b m : Key) (since : Nat) (seen : List Nat) (clock : Nat) (h : Heap) : List (AV × AV × Nat) → List (AV × Heap)
  | [] => []
  | (k, v, c) :: r => (.tup [.bool true, k, v], h.put b (.miter (some m) since (cat seen [c]) clock)) :: altsOf b m since seen clock h r
noncomputable def nextOf (b m : Key) (since : Nat) (seen : List Nat) (clock : Nat) (h : Heap) (l : List (AV × AV × Nat)) : Res := match l with
    | [] => .val (.tup [.bool false]) h
    | [(k, v, c)] => cond (Nat.blt c since) (.val (.tup [.bool true, k, v]) (h.put b (.miter (some m) since (cat seen [c]) clock))) (.bad "next: new")
    | l => cond (allOld since l) (.alts (altsOf b m since seen clock h l)) (.bad "next: new")
noncomputable def nextIn (b m : Key) (since : Nat) (seen : List Nat) (last : Nat) (es : List (AV × AV × Nat)) (clock : Nat) (h : Heap) : Res :=
  cond (or (or seen.isEmpty es.isEmpty) (anyOld last es)) (nextOf b m since seen clock h (unseen seen es)) (.bad "next")
noncomputable def xNextS (b : Key) (len code pos : Nat) (h : Heap) : Res := cond (Nat.blt pos len)
          (forceN (Nat.mod (Nat.shiftRight code (8 * pos)) 256) (fun c => cond (Nat.blt c 128) (.val (.tup [.bool true, .int .i64 (Int.ofNat pos), .int .i32 (Int.ofNat c)]) (h.put b (.siter len code (pos + 1)))) (.bad "next utf8")))
          (.val (.tup [.bool false]) h)
noncomputable def xNextM (b m : Key) (since : Nat) (seen : List Nat) (last : Nat) (h : Heap) : Res := match h.get m with
        | some (.map es clock) => nextIn b m since seen last es clock h
        | _ => .bad "next map"
noncomputable def xNextAt (b : Key) (isStr : Bool) (h : Heap) : Res := match h.get b with
      | some (.miter none _ _ _) => cond isStr (.bad "next") (.val (.tup [.bool false]) h)
      | some (.miter (some m) since seen last) => cond isStr (.bad "next") (xNextM b m since seen last h)
      | some (.siter len code pos) => cond isStr (xNextS b len code pos h) (.bad "next")
      | _ => .bad "next"
noncomputable def xNext (it : AV) (isStr : Bool) (h : Heap) : Res := match it with
    | .ptr b off => cond (Nat.beq off 0) (xNextAt b isStr h) (.bad "next")
    | _ => .bad "next"
noncomputable def xEntryAt (b : Key) (h : Heap) : Res := match h.get b with
      | some (.miter (some m) _ seen stepped) => (match h.get m, seen.getLast? with
        | some (.map es clock), some st => cond (Nat.beq clock stepped) (match es.find? (fun e => Nat.beq e.2.2 st) with
            | some (k, v, _) => .val (.tup [k, v]) h
            | none => .bad "entry") (.bad "entry clock")
        | _, _ => .bad "entry")
      | _ => .bad "entry"
noncomputable def xEntry (it : AV) (h : Heap) : Res := match it with
    | .ptr b off => cond (Nat.beq off 0) (xEntryAt b h) (.bad "entry")
    | _ => .bad "entry"
noncomputable def asNo (want : Nat) (cok : Bool) (h : Heap) : Res := cond cok (match zeroOf P want with | some z => .val (.tup [z, .bool false]) h | none => .bad "typeAssert zero") (.bad "typeAssert fails")
noncomputable def xAssertV (v : AV) (want : Nat) (cok : Bool) (h : Heap) : Res := match v with
      | .iface t v => cond (Nat.beq t want) (.val (cond cok (.tup [v, .bool true]) v) h) (asNo P want cok h)
      | .nilIface => asNo P want cok h
      | _ => .bad "typeAssert"
noncomputable def xAssert (v : AV) (want : Nat) (cok : Bool) (h : Heap) : Res := match P.underlying want with
    | some (.interface _) => .bad "typeAssert iface"
    | none => .bad "typeAssert"
    | _ => xAssertV P v want cok h
noncomputable def xExtract (v : AV) (i : Nat) (h : Heap) : Res := match v with
    | .tup vs => okv (hd (drop i vs)) h "extract"
    | _ => .bad "extract"
noncomputable def xPanic (v : AV) (h : Heap) : Res := match v with
    | .iface t v => .pan (.iface t v) h
    | _ => .bad "panic"
noncomputable def xDefer (c : Call) (T : Slots) (h : Heap) : Res := match c.callee with
    | .value f => (match ev P T f with
      | .func (.func g) first cap => .defer ⟨.func g, cap, cat first (evs P T c.args.toList)⟩ h
      | _ => .bad "defer")
    | _ => .bad "defer"
noncomputable def xLen (t : Nat) (x : AV) (h : Heap) : Res := match P.underlying t with
  | some .string => (match x with | .str l _ => .val (.int .i64 (Int.ofNat l)) h | _ => .bad "len")
  | some (.slice _) => (match x with | .nilSlice => .val (.int .i64 0) h | .emptyS => .val (.int .i64 0) h | .slice _ _ l _ => .val (.int .i64 (Int.ofNat l)) h | _ => .bad "len")
  | some (.map _ _) => (match x with | .nilMap => .val (.int .i64 0) h | .map m => (match h.get m with | some (.map es _) => .val (.int .i64 (Int.ofNat (len es))) h | _ => .bad "len map") | _ => .bad "len")
  | some (.array n _) => .val (.int .i64 (Int.ofNat n)) h
  | some (.pointer a) => (match P.underlying a with | some (.array n _) => .val (.int .i64 (Int.ofNat n)) h | _ => .bad "len")
  | _ => .bad "len"
noncomputable def notIntT (t : Nat) : Bool := match P.underlying t with | some (.slice _) => true | some .string => true | _ => false
def zeroFits (e : Nat) : Bool := match P.info? e with
  | some i => (match i.zero with | some Z => Nat.beq Z.cells.size i.size | none => false)
  | none => false
noncomputable def xAppend (t t1 : Nat) (s x : AV) (h : Heap) : Res := match P.underlying t with
  | some (.slice e) => cond (and (and (posT P e) (zeroFits P e)) (notIntT P t1)) (sliceCells h (szOf P e) (fun n news => appendA P h e (szOf P e) s n news) x) (.bad "append")
  | _ => .bad "append"
noncomputable def copyTo (size : Nat) (d : AV) (n : Nat) (cs : List AV) (h : Heap) : Res := match d with
  | .slice b off dl _ => (match setCells h b off (take (min n dl * size) cs) with | some h => .val (.int .i64 (Int.ofNat (min n dl))) h | none => .bad "copy")
  | .nilSlice => .val (.int .i64 0) h
  | .emptyS => .val (.int .i64 0) h
  | _ => .bad "copy"
noncomputable def xDelete (t : Nat) (m k : AV) (h : Heap) : Res := match m with
      | .nilMap => (match P.underlying t with | some (.map kt _) => cond (keyT P kt) (.val .undef h) (.bad "delete") | _ => .bad "delete")
      | .map m => (match P.underlying t with
        | some (.map kt _) => cond (keyT P kt) (match h.get m with
          | some (.map es clock) => (match delKeyA P h kt k es with | some es => .val .undef (h.put m (.map es clock)) | none => .bad "delete")
          | _ => .bad "delete") (.bad "delete key type")
        | _ => .bad "delete")
      | _ => .bad "delete"
noncomputable def xUnsafeString (pt : Nat) (b : Key) (off n : Nat) (h : Heap) : Res := match P.underlying pt, h.get b with
  | some (.pointer u), some (.cells e cs _ _) => cond (and (and (Nat.beq u e) (isByteT P e)) (and (Nat.beq (szOf P e) 1) (not (Nat.beq n 0))))
      (match cellsAt h b off n with
      | some bs => cond (allByte bs) (strV n (codeOfCells bs) (h.put b (.fixed e cs))) (.bad "unsafeString")
      | none => .bad "unsafeString") (.bad "unsafeString")
  | _, _ => .bad "unsafeString"
def isSlT (t : Nat) : Bool := match P.underlying t with | some (.slice _) => true | _ => false
noncomputable def withT (ts : List Nat) (k : Nat → Res) : Res := match ts with
  | t :: _ => k t
  | [] => .bad "types"
noncomputable def xCap (t : Nat) (x : AV) (h : Heap) : Res := cond (isSlT P t) (match x with
    | .nilSlice => .val (.int .i64 0) h
    | .slice _ _ _ (.is c) => .val (.int .i64 (Int.ofNat c)) h
    | _ => .bad "cap") (.bad "cap")
noncomputable def xCopy (t : Nat) (d s : AV) (h : Heap) : Res := match P.underlying t with
  | some (.slice e) => cond (posT P e) (sliceCells h (szOf P e) (fun n cs => copyTo (szOf P e) d n cs h) s) (.bad "copy")
  | _ => .bad "copy"
noncomputable def xAppend2 (ts : List Nat) (s x : AV) (h : Heap) : Res := match ts with
  | t :: t1 :: _ => xAppend P t t1 s x h
  | _ => .bad "append"
noncomputable def xClear (t : Nat) (x : AV) (h : Heap) : Res := cond (known P t) (match x with
  | .nilMap => .val .undef h
  | .nilSlice => .val .undef h
  | .emptyS => .val .undef h
  | .map m => (match h.get m with
    | some (.map _ clock) => .val .undef (h.put m (.map [] clock))
    | _ => .bad "clear")
  | _ => .bad "clear") (.bad "clear")
noncomputable def xSliceData (x : AV) (h : Heap) : Res := match x with
  | .nilSlice => .val .nilPtr h
  | .slice b off l (.more _) => cond (Nat.beq l 0) (.bad "unsafeSliceData") (.val (.ptr b off) h)
  | .slice b off _ (.is c) => cond (Nat.beq c 0) (.bad "unsafeSliceData") (.val (.ptr b off) h)
  | _ => .bad "unsafeSliceData"
noncomputable def xUString (t : Nat) (p n : AV) (h : Heap) : Res := match n with
  | .int _ (.ofNat n) => cond (Nat.beq n 0) (match p with
      | .nilPtr => .val (.str 0 0) h
      | .ptr _ _ => .val (.str 0 0) h
      | _ => .bad "unsafeString") (match p with
      | .ptr b off => xUnsafeString P t b off n h
      | _ => .bad "unsafeString")
  | _ => .bad "unsafeString"
noncomputable def xMin (x y : AV) (h : Heap) : Res := match x, y with
  | .int k a, .int _ b => cond (intLt b a) (.val (.int k b) h) (.val (.int k a) h)
  | _, _ => .bad "min"
noncomputable def xMax (x y : AV) (h : Heap) : Res := match x, y with
  | .int k a, .int _ b => cond (intLt a b) (.val (.int k b) h) (.val (.int k a) h)
  | _, _ => .bad "max"
noncomputable def one1 (args : List AV) (k : AV → Res) : Res := match args with
  | [x] => k x
  | _ => .bad "one argument"
noncomputable def two2 (args : List AV) (k : AV → AV → Res) : Res := match args with
  | [x, y] => k x y
  | _ => .bad "two arguments"
noncomputable def xBuiltin (b : Builtin) (ts : List Nat) (args : List AV) (h : Heap) : Res := match b with
    | .len => one1 args (fun x => withT ts (fun t => xLen P t x h))
    | .append => two2 args (fun s x => xAppend2 P ts s x h)
    | .copy => two2 args (fun d s => withT ts (fun t => xCopy P t d s h))
    | .delete => two2 args (fun m k => withT ts (fun t => xDelete P t m k h))
    | .recover => .recover h
    | .min => two2 args (fun x y => xMin x y h)
    | .max => two2 args (fun x y => xMax x y h)
    | .cap => one1 args (fun x => withT ts (fun t => xCap P t x h))
    | .clear => one1 args (fun x => withT ts (fun t => xClear P t x h))
    | .unsafeString => two2 args (fun p n => withT ts (fun t => xUString P t p n h))
    | .unsafeSliceData => one1 args (fun x => xSliceData x h)
    | _ => .bad "builtin"
noncomputable def xCallV (f : AV) (args : List AV) (h : Heap) : Res := match f with
      | .func g first cap => (match g with
        | .func g => .enter g (cat first (cat args cap)) h
        | .yield l => .round l args h)
      | _ => .bad "call value"
noncomputable def xCall (c : Call) (T : Slots) (h : Heap) : Res := Call.rec (motive := fun _ => Res) (fun callee args ts => Callee.casesOn (motive := fun _ => Res) callee
  (fun f => xCallV (ev P T f) (evs P T args.toList) h) (fun _ _ => .bad "invoke") (fun b => xBuiltin P b ts.toList (evs P T args.toList) h)) c
noncomputable def xPick (c a b : AV) (h : Heap) : Res := match c with | .bool t => .val (cond t a b) h | _ => .bad "pick"
noncomputable def omap (T : Slots) (x : Option Operand) : Option AV := Option.rec (motive := fun _ => Option AV) none (fun x => some (ev P T x)) x
noncomputable def xFunc (f : Fn) (a b : List AV) (h : Heap) : Res := match f with | .func f => .val (.func (.func f) a b) h | _ => .bad "makeFunc"
abbrev XF := Slots → Heap → Res
noncomputable def cMove (x : Operand) : XF := fun T h => .val (ev P T x) h
noncomputable def cPick (c a b : Operand) : XF := fun T h => xPick (ev P T c) (ev P T a) (ev P T b) h
noncomputable def cAlloc (e : Nat) : XF := fun _ h => xAlloc P e h
noncomputable def cBox (e : Nat) (v : Operand) : XF := fun T h => xBox e (ev P T v) h
noncomputable def cBuild (t : Nat) (ps : Array (Nat × Operand)) : XF := fun T h => xBuild P t (evps P T ps.toList) h
noncomputable def cBuildSlice (t n : Nat) (ps : Array (Nat × Operand)) : XF := fun T h => xBuildSlice P t n (evps P T ps.toList) h
noncomputable def cMapUpdate (t : Nat) (m k v : Operand) : XF := fun T h => xMapUpdate P t (ev P T m) (ev P T k) (ev P T v) h
noncomputable def cLoad (t : Nat) (a : Operand) : XF := fun T h => xLoad P t (ev P T a) h
noncomputable def cStore (t : Nat) (a v : Operand) : XF := fun T h => xStore P t (ev P T a) (ev P T v) h
noncomputable def cNil (x : Operand) : XF := fun T h => xNil (ev P T x) h
noncomputable def isC (x : Operand) : Bool := match x with | .const _ => true | _ => false
noncomputable def cBin (op : BinOp) (t : Nat) (x y : Operand) (_ : Nat) : XF := fun T h => xBin P op t (or (isC x) (isC y)) (ev P T x) (ev P T y) h
noncomputable def cUn (op : UnOp) (_ : Nat) (x : Operand) : XF := fun T h => xUn P op (ev P T x) h
noncomputable def cConvert (s d : Nat) (x : Operand) : XF := fun T h => xConvert P s d (ev P T x) h
noncomputable def notIface (t : Nat) : Bool := match P.underlying t with | some (.interface _) => false | some _ => true | none => false
noncomputable def cIface (t : Nat) (x : Operand) : XF := fun T h => cond (notIface P t) (.val (.iface t (ev P T x)) h) (.bad "makeInterface")
noncomputable def cFunc (f : Fn) (a b : Array Operand) : XF := fun T h => xFunc f (evs P T a.toList) (evs P T b.toList) h
noncomputable def hintOk (t : Nat) (x : Option AV) : Bool := match x with | none => true | some (.int _ _) => (match P.underlying t with | some (.map _ _) => true | _ => false) | _ => false
noncomputable def cMakeMap (t : Nat) (r : Option Operand) : XF := fun T h => cond (hintOk P t (omap P T r)) (h.alloc (.map [] 0) (fun b h => .val (.map b) h)) (.bad "makeMap")
noncomputable def cMakeSlice (t : Nat) (l c : Operand) : XF := fun T h => xMakeSlice P t (ev P T l) (ev P T c) h
noncomputable def cSlice (t : Nat) (x : Operand) (lo hi mx : Option Operand) : XF := fun T h => xSlice P t (ev P T x) (omap P T lo) (omap P T hi) (omap P T mx) h
noncomputable def cFieldAddr (s : Nat) (x : Operand) (f : Nat) : XF := fun T h => xFieldAddr P s f (ev P T x) h
noncomputable def cField (s : Nat) (x : Operand) (f : Nat) : XF := fun T h => xField P s f (ev P T x) h
noncomputable def cIndexAddr (t : Nat) (x i : Operand) : XF := fun T h => xIndexAddr P t (ev P T x) (ev P T i) h
def isMapT (t : Nat) : Bool := match P.underlying t with | some (.map _ _) => true | _ => false
noncomputable def xIndexC (t : Nat) (v i : AV) (h : Heap) : Res := match v with
  | .str l c => cond (isStrT P t) (xIndex P t (.str l c) i h) (.bad "index type")
  | v => xIndex P t v i h
noncomputable def xRangeC (t : Nat) (v : AV) (h : Heap) : Res := match v with
  | .str l c => cond (isStrT P t) (xRange (.str l c) h) (.bad "range type")
  | .nilMap => cond (isMapT P t) (xRange .nilMap h) (.bad "range type")
  | .map b => cond (isMapT P t) (xRange (.map b) h) (.bad "range type")
  | _ => .bad "range"
noncomputable def cIndex (t : Nat) (x i : Operand) : XF := fun T h => xIndexC P t (ev P T x) (ev P T i) h
noncomputable def cLookup (t : Nat) (x k : Operand) (c : Bool) : XF := fun T h => xLookup P t (ev P T x) (ev P T k) c h
noncomputable def cRange (t : Nat) (x : Operand) : XF := fun T h => xRangeC P t (ev P T x) h
noncomputable def cNext (x : Operand) (s : Bool) : XF := fun T h => xNext (ev P T x) s h
noncomputable def cEntry (x : Operand) : XF := fun T h => xEntry (ev P T x) h
noncomputable def cAssert (x : Operand) (_ t : Nat) (c : Bool) : XF := fun T h => xAssert P (ev P T x) t c h
noncomputable def cExtract (x : Operand) (i : Nat) : XF := fun T h => xExtract (ev P T x) i h
noncomputable def cCall (c : Call) : XF := fun T h => xCall P c T h
noncomputable def cDefer (c : Call) : XF := fun T h => xDefer P c T h
noncomputable def cPanic (x : Operand) : XF := fun T h => xPanic (ev P T x) h
def no1 {α : Type} (_ : α) : XF := fun _ _ => .bad "op"
def no2 {α β : Type} (_ : α) (_ : β) : XF := fun _ _ => .bad "op"
def no3 {α β γ : Type} (_ : α) (_ : β) (_ : γ) : XF := fun _ _ => .bad "op"
def no4 {α β γ δ : Type} (_ : α) (_ : β) (_ : γ) (_ : δ) : XF := fun _ _ => .bad "op"
noncomputable def execA (o : Op) : XF := Op.casesOn (motive := fun _ => XF) o
  (cMove P) (cMove P) (cPick P) (cAlloc P) (cBox P) (cBuild P) (cBuildSlice P) (cMapUpdate P) (cLoad P) (cStore P) no1 no1 (cNil P) (cBin P) (cUn P) (cConvert P) no2
  (cIface P) (cFunc P) (cMakeMap P) no2 (cMakeSlice P) (cSlice P) (cFieldAddr P) (cField P) (cIndexAddr P) (cIndex P) (cLookup P) (cMapUpdate P) no3 no4
  (cRange P) (cNext P) (cEntry P) (cAssert P) (cExtract P) (cCall P) no1 (cDefer P) (cPanic P) no2 no3 no2

end
end Go.VM
namespace Go.VM
section
variable {α : Type}
theorem RT.get_nil (k : Key) : (RT.nil : RT α).get k = none := rfl
theorem RT.get_set_same (x : α) : ∀ (k : Key) (t : RT α), (RT.set x k t).get k = some x := by
  intro k
  induction k with
  | nil => intro t; cases t <;> rfl
  | cons d ds ih =>
    intro t
    cases t <;> cases d <;> exact ih _
theorem RT.get_set_other (x : α) : ∀ (k k' : Key) (t : RT α), k ≠ k' → (RT.set x k t).get k' = t.get k' := by
  intro k
  induction k with
  | nil =>
    intro k' t h
    cases k' with
    | nil => exact absurd rfl h
    | cons d ds => cases t <;> cases d <;> rfl
  | cons d ds ih =>
    intro k' t h
    cases k' with
    | nil => cases t <;> cases d <;> rfl
    | cons d' ds' =>
      by_cases hd : d = d'
      · subst hd
        have h' : ds ≠ ds' := fun e => h (by rw [e])
        cases t <;> cases d <;> exact ih _ _ h'
      · cases t <;> cases d <;> cases d' <;> first | rfl | exact absurd rfl hd
end
theorem RT.get_set {α : Type} (x : α) (k k' : Key) (t : RT α) [Decidable (k = k')] : (RT.set x k t).get k' = if k = k' then some x else t.get k' := by
  split
  · rename_i h; subst h; exact RT.get_set_same x k t
  · rename_i h; exact RT.get_set_other x k k' t h
theorem D8.num_ofNat (a : Nat) (h : a < 8) : (D8.ofNat a).num = a := by
  match a, h with
  | 0, _ | 1, _ | 2, _ | 3, _ | 4, _ | 5, _ | 6, _ | 7, _ => rfl
theorem D8.ofNat_inj (a b : Nat) (ha : a < 8) (hb : b < 8) (h : D8.ofNat a = D8.ofNat b) : a = b := by
  rw [← D8.num_ofNat a ha, ← D8.num_ofNat b hb, h]
theorem keyOf_inj {a b : Nat} (h : keyOf a = keyOf b) : a = b := by
  simp only [keyOf, List.cons.injEq] at h
  obtain ⟨h0, h1, h2, h3⟩ := h
  have e0 := D8.ofNat_inj _ _ (by omega) (by omega) h0
  have e1 := D8.ofNat_inj _ _ (by omega) (by omega) h1
  have e2 := D8.ofNat_inj _ _ (by omega) (by omega) h2
  have e3 : a / 512 = b / 512 := by have := congrArg List.length h3; simpa using this
  omega
theorem Key.same_iff : ∀ a b : Key, Key.same a b = true ↔ a = b := by
  intro a
  induction a with
  | nil => intro b; cases b <;> simp [Key.same]
  | cons d ds ih =>
    intro b
    cases b with
    | nil => simp [Key.same]
    | cons e es =>
      have hn : ∀ d e : D8, Nat.beq d.num e.num = true ↔ d = e := by intro d e; cases d <;> cases e <;> simp [D8.num]
      cases hb : Nat.beq d.num e.num with
      | true => simp [Key.same, ih, (hn d e).1 hb]
      | false => simp [Key.same, hb]; intro he; rw [(hn d e).2 he] at hb; cases hb
end Go.VM
namespace Go.VM
structure Loc where
  B : Nat
  base : Nat
  total : Nat
abbrev Rho := Key → Option Loc
def strBytes : Nat → Nat → List UInt8
  | 0, _ => []
  | n + 1, c => UInt8.ofNat c :: strBytes n (c / 256)
def strOf (l c : Nat) : ByteArray := ⟨⟨strBytes l c⟩⟩
mutual
inductive Rel (ρ : Rho) : AV → Value → Prop where
  | bool (b : Bool) : Rel ρ (.bool b) (.bool b)
  | int (k : IntKind) (n : Int) : Rel ρ (.int k n) (.int k n)
  | float (k : FloatKind) (b : Nat) : Rel ρ (.float k b) (.float k b)
  | str (l c : Nat) (h : c < 256 ^ l) : Rel ρ (.str l c) (.string (strOf l c))
  | nilPtr : Rel ρ .nilPtr (.pointer none)
  | ptr (b : Key) (off : Nat) (L : Loc) (h : ρ b = some L) : Rel ρ (.ptr b off) (.pointer (some ⟨L.B, L.base + off, none⟩))
  | nilSlice : Rel ρ .nilSlice (.slice none 0 0)
  | emptyS (a : Addr) (c : Nat) : Rel ρ .emptyS (.slice (some a) 0 c)
  | sliceIs (b : Key) (off len c : Nat) (L : Loc) (h : ρ b = some L) : Rel ρ (.slice b off len (.is c)) (.slice (some ⟨L.B, L.base + off, none⟩) len c)
  | sliceMore (b : Key) (off len c sz : Nat) (L : Loc) (h : ρ b = some L) (hc : len ≤ c) (ht : L.base + off + c * sz = L.total) :
      Rel ρ (.slice b off len (.more sz)) (.slice (some ⟨L.B, L.base + off, none⟩) len c)
  | nilMap : Rel ρ .nilMap (.map none)
  | map (b : Key) (L : Loc) (h : ρ b = some L) : Rel ρ (.map b) (.map (some L.B))
  | func (f : Nat) (a b : List AV) (A B : List Value) (ha : RelL ρ a A) (hb : RelL ρ b B) : Rel ρ (.func (.func f) a b) (.func (.func f) ⟨A⟩ ⟨B⟩)
  | yield (l : Key) (L : Loc) (h : ρ l = some L) : Rel ρ (.func (.yield l) [] []) (.func (.yield L.B) #[] #[])
  | nilFunc : Rel ρ .nilFunc .nilFunc
  | iface (t : Nat) (v : AV) (V : Value) (h : Rel ρ v V) : Rel ρ (.iface t v) (.iface t V)
  | nilIface : Rel ρ .nilIface .nilIface
  | agg (a : List AV) (A : List Value) (h : RelL ρ a A) : Rel ρ (.agg a) (.agg ⟨A⟩)
  | tup (a : List AV) (A : List Value) (h : RelL ρ a A) : Rel ρ (.tup a) (.tuple ⟨A⟩)
  | undef : Rel ρ .undef (.tuple #[])
  | junk (V : Value) : Rel ρ .junk V
inductive RelL (ρ : Rho) : List AV → List Value → Prop where
  | nil : RelL ρ [] []
  | cons (v : AV) (V : Value) (r : List AV) (R : List Value) (h : Rel ρ v V) (hr : RelL ρ r R) : RelL ρ (v :: r) (V :: R)
end
def Sub (ρ ρ' : Rho) : Prop := ∀ b L, ρ b = some L → ρ' b = some L
theorem Sub.refl (ρ : Rho) : Sub ρ ρ := fun _ _ h => h
theorem Sub.trans {a b c : Rho} (h : Sub a b) (h' : Sub b c) : Sub a c := fun k L e => h' k L (h k L e)
mutual
theorem Rel.mono {ρ ρ' : Rho} (s : Sub ρ ρ') : ∀ {v : AV} {V : Value}, Rel ρ v V → Rel ρ' v V
  | _, _, .bool b => .bool b
  | _, _, .int k n => .int k n
  | _, _, .float k b => .float k b
  | _, _, .str l c h => .str l c h
  | _, _, .nilPtr => .nilPtr
  | _, _, .ptr b off L h => .ptr b off L (s _ _ h)
  | _, _, .nilSlice => .nilSlice
  | _, _, .emptyS a c => .emptyS a c
  | _, _, .sliceIs b off len c L h => .sliceIs b off len c L (s _ _ h)
  | _, _, .sliceMore b off len c sz L h hc ht => .sliceMore b off len c sz L (s _ _ h) hc ht
  | _, _, .nilMap => .nilMap
  | _, _, .map b L h => .map b L (s _ _ h)
  | _, _, .func f a b A B ha hb => .func f a b A B (RelL.mono s ha) (RelL.mono s hb)
  | _, _, .yield l L h => .yield l L (s _ _ h)
  | _, _, .nilFunc => .nilFunc
  | _, _, .iface t v V h => .iface t v V (Rel.mono s h)
  | _, _, .nilIface => .nilIface
  | _, _, .agg a A h => .agg a A (RelL.mono s h)
  | _, _, .tup a A h => .tup a A (RelL.mono s h)
  | _, _, .undef => .undef
  | _, _, .junk V => .junk V
theorem RelL.mono {ρ ρ' : Rho} (s : Sub ρ ρ') : ∀ {v : List AV} {V : List Value}, RelL ρ v V → RelL ρ' v V
  | _, _, .nil => .nil
  | _, _, .cons v V r R h hr => .cons v V r R (Rel.mono s h) (RelL.mono s hr)
end
section lists
variable {ρ : Rho}
theorem RelL.length : ∀ {a : List AV} {A : List Value}, RelL ρ a A → A.length = a.length
  | _, _, .nil => rfl
  | _, _, .cons _ _ _ _ _ hr => by simp [RelL.length hr]
theorem RelL.append : ∀ {a b : List AV} {A B : List Value}, RelL ρ a A → RelL ρ b B → RelL ρ (a ++ b) (A ++ B)
  | _, _, _, _, .nil, h => h
  | _, _, _, _, .cons v V _ _ hv hr, h => .cons v V _ _ hv (RelL.append hr h)
theorem RelL.drop : ∀ (n : Nat) {a : List AV} {A : List Value}, RelL ρ a A → RelL ρ (a.drop n) (A.drop n)
  | 0, _, _, h => h
  | _ + 1, _, _, .nil => by simpa using RelL.nil
  | n + 1, _, _, .cons _ _ _ _ _ hr => by simpa using RelL.drop n hr
theorem RelL.take : ∀ (n : Nat) {a : List AV} {A : List Value}, RelL ρ a A → RelL ρ (a.take n) (A.take n)
  | 0, _, _, _ => by simpa using RelL.nil
  | _ + 1, _, _, .nil => by simpa using RelL.nil
  | n + 1, _, _, .cons v V _ _ hv hr => by simpa using RelL.cons v V _ _ hv (RelL.take n hr)
theorem RelL.get? : ∀ (n : Nat) {a : List AV} {A : List Value} {v : AV}, RelL ρ a A → a[n]? = some v → ∃ V, A[n]? = some V ∧ Rel ρ v V
  | _, _, _, _, .nil, h => by simp at h
  | 0, _, _, _, .cons v V _ _ hv _, h => by simp at h; subst h; exact ⟨V, by simp, hv⟩
  | n + 1, _, _, _, .cons _ _ _ _ _ hr, h => by simp at h; obtain ⟨V, e, r⟩ := RelL.get? n hr h; exact ⟨V, by simpa using e, r⟩
end lists
-- the small list functions are the library's
theorem take_eq {α : Type} : ∀ (n : Nat) (l : List α), take n l = l.take n
  | 0, l => by simp [take]
  | n + 1, [] => by simp [take]
  | n + 1, x :: r => by simp [take, take_eq n r]
theorem drop_eq {α : Type} : ∀ (n : Nat) (l : List α), drop n l = l.drop n
  | 0, l => rfl
  | n + 1, [] => rfl
  | n + 1, x :: r => by show drop n r = _; rw [drop_eq n r]; rfl
theorem hd_eq {α : Type} (l : List α) : hd l = l.head? := by cases l <;> rfl
theorem len_eq {α : Type} : ∀ l : List α, len l = l.length
  | [] => rfl
  | _ :: r => by simp [len, len_eq r]
theorem cat_eq {α : Type} : ∀ a b : List α, cat a b = a ++ b
  | [], _ => rfl
  | x :: r, b => by simp [cat, cat_eq r b]
theorem evs_eq (P : Program) (T : Slots) (xs : List Operand) : evs P T xs = xs.map (ev P T) := by
  induction xs with
  | nil => rfl
  | cons x r ih => show ev P T x :: evs P T r = _; rw [ih]; rfl
theorem forceN_eq {α : Type} (n : Nat) (k : Nat → α) : forceN n k = k n := by cases n <;> rfl
theorem forceI_eq {α : Type} (n : Int) (k : Int → α) : forceI n k = k n := by
  cases n with
  | ofNat a => show forceN a (fun a => k (Int.ofNat a)) = _; rw [forceN_eq]
  | negSucc a => show forceN a (fun a => k (Int.negSucc a)) = _; rw [forceN_eq]
end Go.VM
namespace Go.VM
/-! memory: what an abstract heap says of a world -/
def AObj.live : AObj → Bool
  | .dead => false
  | _ => true
def CellsRel (ρ : Rho) (cs : List AV) (C : Array Value) (base : Nat) : Prop := base + cs.length ≤ C.size ∧ RelL ρ cs ((C.toList.drop base).take cs.length)
/-- what may be frozen: cells ahead of 'base + fz', or none that is there -/
def FzRel (fz : Nat) (q : Nat × Nat) (L : Loc) : Prop := ∀ j, q.1 ≤ j → j < q.2 → j < L.base + fz ∨ L.total ≤ j
inductive ERel (ρ : Rho) : List (AV × AV × Nat) → List MapEntry → Prop where
  | nil : ERel ρ [] []
  | cons (k v : AV) (K V : Value) (c : Nat) (r : List (AV × AV × Nat)) (R : List MapEntry) (hk : Rel ρ k K) (hv : Rel ρ v V) (hr : ERel ρ r R) :
      ERel ρ ((k, v, c) :: r) ({ key := K, val := V, born := c } :: R)
inductive DRel (ρ : Rho) : ADef → Deferred → Prop where
  | fn (f : Nat) (c a : List AV) (C A : List Value) (hc : RelL ρ c C) (ha : RelL ρ a A) : DRel ρ ⟨.func f, c, a⟩ { target := .fn (.func f) ⟨C⟩, args := ⟨A⟩ }
  | mark (b : Key) (L : Loc) (h : ρ b = some L) : DRel ρ ⟨.yield b, [], []⟩ { target := .collected L.B, args := #[] }
inductive DsRel (ρ : Rho) : List ADef → List Deferred → Prop where
  | nil : DsRel ρ [] []
  | cons (d : ADef) (D : Deferred) (r : List ADef) (R : List Deferred) (h : DRel ρ d D) (hr : DsRel ρ r R) : DsRel ρ (d :: r) (D :: R)
def Slots.n : Slots → Nat
  | .mk n _ => n
structure TRel (ρ : Rho) (T : Slots) (t : Array Value) : Prop where
  n : t.size = T.n
  at_ : ∀ i, Rel ρ (T.get i) (t.getD i Go.undef)
def ObjRel (N : Nat) (ρ : Rho) (L : Loc) (O : Option Obj) : AObj → Prop
  | .cells e cs opn fz => N ≤ L.B ∧ ∃ C q, O = some (.cells C e q) ∧ C.size = L.total ∧ FzRel fz q L ∧ CellsRel ρ cs C L.base ∧ (opn = false → L.base = 0 ∧ L.total = cs.length) ∧ (fz = 0 → opn = false → q = (0, 0))
  | .fixed _ cs => ∃ C q, (∃ e, O = some (.cells C e q)) ∧ C.size = L.total ∧ CellsRel ρ cs C L.base
  | .dead => True
  | .map es clock => N ≤ L.B ∧ ∃ E, O = some (.map E clock) ∧ ERel ρ es E.toList
  | .siter l c p => N ≤ L.B ∧ L.base = 0 ∧ c < 256 ^ l ∧ O = some (.stringIter (strOf l c) p)
  | .miter m since seen st => N ≤ L.B ∧ L.base = 0 ∧ ∃ M, O = some (.mapIter M since ⟨seen⟩ st) ∧ (match m with | none => M = none | some b => ∃ Lm, ρ b = some Lm ∧ M = some Lm.B)
  | .loop st p f tm ps a b d => N ≤ L.B ∧ ∃ t Ld, ρ d = some Ld ∧ TRel ρ tm t ∧ O = some (.loop { state := st, pending := p, fn := f, tmps := t, params := ⟨ps⟩, assign := a, body := b, defers := Ld.B })
  | .deferred ds => N ≤ L.B ∧ ∃ D, DsRel ρ ds D ∧ O = some (.deferred (some D))
structure Sim (w0 : World) (ρ : Rho) (h : Heap) (w : World) : Prop where
  os : w.os = w0.os
  out : w.output = w0.output
  size : w0.heap.size ≤ w.heap.size
  old : ∀ k, k < w0.heap.size → w.heap[k]? = w0.heap[k]?
  obj : ∀ b L, ρ b = some L → ∃ o, h.get b = some o ∧ L.B < w.heap.size ∧ ObjRel w0.heap.size ρ L w.heap[L.B]? o
  inj : ∀ b b' L L' o o', ρ b = some L → ρ b' = some L' → h.get b = some o → h.get b' = some o' → o.live = true → o'.live = true → L.B = L'.B → b = b'
theorem Heap.get_put_same (h : Heap) (b : Key) (o : AObj) : (h.put b o).get b = some o := by cases h; exact RT.get_set_same o b _
theorem Heap.get_put_other (h : Heap) (b b' : Key) (o : AObj) (hne : b ≠ b') : (h.put b o).get b' = h.get b' := by cases h; exact RT.get_set_other o b b' _ hne
section mono
variable {ρ ρ' : Rho} (s : Sub ρ ρ')
include s
theorem CellsRel.mono {cs : List AV} {C : Array Value} {b : Nat} (h : CellsRel ρ cs C b) : CellsRel ρ' cs C b := ⟨h.1, h.2.mono s⟩
theorem ERel.mono : ∀ {a : List (AV × AV × Nat)} {A : List MapEntry}, ERel ρ a A → ERel ρ' a A
  | _, _, .nil => .nil
  | _, _, .cons k v K V c r R hk hv hr => .cons k v K V c r R (hk.mono s) (hv.mono s) (ERel.mono hr)
theorem DRel.mono : ∀ {a : ADef} {A : Deferred}, DRel ρ a A → DRel ρ' a A
  | _, _, .fn f c a C A hc ha => .fn f c a C A (hc.mono s) (ha.mono s)
  | _, _, .mark b L h => .mark b L (s _ _ h)
theorem DsRel.mono : ∀ {a : List ADef} {A : List Deferred}, DsRel ρ a A → DsRel ρ' a A
  | _, _, .nil => .nil
  | _, _, .cons d D r R h hr => .cons d D r R (DRel.mono s h) (DsRel.mono hr)
theorem TRel.mono {T : Slots} {t : Array Value} (h : TRel ρ T t) : TRel ρ' T t := ⟨h.n, fun i => (h.at_ i).mono s⟩
theorem ObjRel.mono {N : Nat} {L : Loc} {O : Option Obj} : ∀ {o : AObj}, ObjRel N ρ L O o → ObjRel N ρ' L O o
  | .cells _ _ _ _, ⟨a, C, q, e, f, g, h, i, j⟩ => ⟨a, C, q, e, f, g, h.mono s, i, j⟩
  | .fixed _ _, ⟨C, q, e, f, g⟩ => ⟨C, q, e, f, g.mono s⟩
  | .dead, _ => trivial
  | .map _ _, ⟨a, E, e, h⟩ => ⟨a, E, e, h.mono s⟩
  | .siter _ _ _, h => h
  | .miter m _ _ _, ⟨a, b, M, e, h⟩ => ⟨a, b, M, e, by
      cases m with
      | none => exact h
      | some k => obtain ⟨Lm, h1, h2⟩ := h; exact ⟨Lm, s _ _ h1, h2⟩⟩
  | .loop _ _ _ _ _ _ _ _, ⟨a, t, Ld, h1, h2, h3⟩ => ⟨a, t, Ld, s _ _ h1, h2.mono s, h3⟩
  | .deferred _, ⟨a, D, h, e⟩ => ⟨a, D, h.mono s, e⟩
end mono
instance Key.decEq (a b : Key) : Decidable (a = b) := decidable_of_iff _ (Key.same_iff a b)
/-- a new block, known under a new key -/
def Rho.add (ρ : Rho) (b : Key) (L : Loc) : Rho := fun b' => if b = b' then some L else ρ b'
theorem Rho.sub_add {ρ : Rho} {b : Key} {L : Loc} (h : ρ b = none) : Sub ρ (ρ.add b L) := by
  intro b' L' e
  unfold Rho.add
  split
  · rename_i hb; subst hb; rw [h] at e; cases e
  · exact e
theorem Rho.add_same (ρ : Rho) (b : Key) (L : Loc) : (ρ.add b L) b = some L := by simp [Rho.add]
section sim
variable {w0 : World} {ρ : Rho} {h : Heap} {w : World}
theorem Sim.none_of_get (hs : Sim w0 ρ h w) {b : Key} (hb : h.get b = none) : ρ b = none := by
  cases e : ρ b with
  | none => rfl
  | some L => obtain ⟨o, ho, _⟩ := hs.obj b L e; rw [hb] at ho; cases ho
theorem Sim.drew (hs : Sim w0 ρ h w) : Sim w0 ρ h w.drew := ⟨hs.os, hs.out, hs.size, hs.old, hs.obj, hs.inj⟩
/-- a new object on both sides -/
theorem Sim.alloc (hs : Sim w0 ρ h w) {b : Key} {o : AObj} {O : Obj} {L : Loc} (hb : h.get b = none) (hL : L.B = w.heap.size)
    (ho : ObjRel w0.heap.size (ρ.add b L) L (some O) o) : Sim w0 (ρ.add b L) (h.put b o) (w.alloc O) := by
  have hn := hs.none_of_get hb
  have hsub : Sub ρ (ρ.add b L) := Rho.sub_add hn
  have hold : ∀ k, k < w.heap.size → (w.alloc O).heap[k]? = w.heap[k]? := fun k hk => by show (w.heap.push O)[k]? = _; rw [Array.getElem?_push_lt hk, Array.getElem?_eq_getElem hk]
  refine ⟨hs.os, hs.out, ?_, ?_, ?_, ?_⟩
  · have := hs.size; simp; omega
  · intro k hk; rw [hold k (by have := hs.size; omega)]; exact hs.old k hk
  · intro b' L' e
    by_cases hbb : b = b'
    · subst hbb
      rw [Rho.add_same] at e
      cases e
      refine ⟨o, Heap.get_put_same h b o, by simp [hL], ?_⟩
      have : (w.alloc O).heap[L.B]? = some O := by rw [hL]; show (w.heap.push O)[w.heap.size]? = _; simp
      rw [this]; exact ho
    · have e' : ρ b' = some L' := by simpa [Rho.add, hbb] using e
      obtain ⟨o', g, hlt, hr⟩ := hs.obj b' L' e'
      refine ⟨o', by rw [Heap.get_put_other h b b' o hbb]; exact g, by simp; omega, ?_⟩
      rw [hold _ hlt]
      exact hr.mono hsub
  · intro b1 b2 L1 L2 o1 o2 e1 e2 g1 g2 l1 l2 hB
    by_cases h1 : b = b1
    · subst h1
      rw [Rho.add_same] at e1; cases e1
      by_cases h2 : b = b2
      · exact h2
      · have e2' : ρ b2 = some L2 := by simpa [Rho.add, h2] using e2
        obtain ⟨_, _, hlt, _⟩ := hs.obj b2 L2 e2'
        omega
    · have e1' : ρ b1 = some L1 := by simpa [Rho.add, h1] using e1
      by_cases h2 : b = b2
      · subst h2
        rw [Rho.add_same] at e2; cases e2
        obtain ⟨_, _, hlt, _⟩ := hs.obj b1 L1 e1'
        omega
      · have e2' : ρ b2 = some L2 := by simpa [Rho.add, h2] using e2
        rw [Heap.get_put_other h b b1 o h1] at g1
        rw [Heap.get_put_other h b b2 o h2] at g2
        exact hs.inj b1 b2 L1 L2 o1 o2 e1' e2' g1 g2 l1 l2 hB
/-- an object written over on both sides -/
theorem Sim.put (hs : Sim w0 ρ h w) {b : Key} {o o' : AObj} {L : Loc} {O : Obj} {w' : World} (hb : ρ b = some L) (hg : h.get b = some o) (hlive : o.live = true)
    (hN : w0.heap.size ≤ L.B) (hos : w'.os = w.os) (hout : w'.output = w.output) (hsz : w'.heap.size = w.heap.size) (hsame : ∀ k, k ≠ L.B → w'.heap[k]? = w.heap[k]?) (hat : w'.heap[L.B]? = some O)
    (ho : ObjRel w0.heap.size ρ L (some O) o') : Sim w0 ρ (h.put b o') w' := by
  refine ⟨hos.trans hs.os, hout.trans hs.out, by rw [hsz]; exact hs.size, ?_, ?_, ?_⟩
  · intro k hk; rw [hsame k (by omega)]; exact hs.old k hk
  · intro b' L' e
    by_cases hbb : b = b'
    · subst hbb
      rw [hb] at e; cases e
      obtain ⟨_, _, hlt, _⟩ := hs.obj b L hb
      refine ⟨o', Heap.get_put_same h b o', by rw [hsz]; exact hlt, ?_⟩
      rw [hat]; exact ho
    · obtain ⟨o2, g2, hlt, hr⟩ := hs.obj b' L' e
      refine ⟨o2, by rw [Heap.get_put_other h b b' o' hbb]; exact g2, by rw [hsz]; exact hlt, ?_⟩
      cases hl2 : o2.live with
      | true =>
        have hne : L'.B ≠ L.B := fun hB => hbb (hs.inj b b' L L' o o2 hb e hg g2 hlive hl2 hB.symm)
        rw [hsame _ hne]; exact hr
      | false =>
        cases o2 with
        | dead => trivial
        | _ => simp [AObj.live] at hl2
  · intro b1 b2 L1 L2 o1 o2 e1 e2 g1 g2 l1 l2 hB
    have key : ∀ bx ox, (h.put b o').get bx = some ox → ox.live = true → ∃ oy, h.get bx = some oy ∧ oy.live = true := by
      intro bx ox g l
      by_cases hx : b = bx
      · subst hx; exact ⟨o, hg, hlive⟩
      · rw [Heap.get_put_other h b bx o' hx] at g; exact ⟨ox, g, l⟩
    obtain ⟨y1, k1, m1⟩ := key b1 o1 g1 l1
    obtain ⟨y2, k2, m2⟩ := key b2 o2 g2 l2
    exact hs.inj b1 b2 L1 L2 y1 y2 e1 e2 k1 k2 m1 m2 hB
end sim
end Go.VM
namespace Go.VM
/-- what is not known to the world is left alone -/
def Kept (ρ : Rho) (h : Heap) (ρ' : Rho) (h' : Heap) : Prop := ∀ k o, h.get k = some o → ρ k = none → ρ' k = none ∧ h'.get k = some o
theorem Kept.refl (ρ : Rho) (h : Heap) : Kept ρ h ρ h := fun _ _ g e => ⟨e, g⟩
theorem Kept.trans {ρ ρ' ρ'' : Rho} {h h' h'' : Heap} (a : Kept ρ h ρ' h') (b : Kept ρ' h' ρ'' h'') : Kept ρ h ρ'' h'' :=
  fun k o g e => let ⟨e', g'⟩ := a k o g e; b k o g' e'
def OpVal (P : Program) (w0 : World) (ρ : Rho) (h : Heap) (w : World) (s : Sem Value) (v : AV) (h' : Heap) : Prop :=
  ∃ ρ' V w', Sub ρ ρ' ∧ Kept ρ h ρ' h' ∧ Sim w0 ρ' h' w' ∧ Rel ρ' v V ∧ s.run P w = .ok V w'
def ValOk (P : Program) (w0 : World) (ρ : Rho) (h : Heap) (w : World) (s : Sem Value) : Res → Prop
  | .val v h' => OpVal P w0 ρ h w s v h'
  | .alts l => ∃ p, p ∈ l ∧ OpVal P w0 ρ h w s p.1 p.2
  | .bad _ => True
  | _ => False
section
variable {P : Program} {w0 : World} {ρ : Rho} {h : Heap} {w : World}
theorem here (hs : Sim w0 ρ h w) {s : Sem Value} {v : AV} {V : Value} (hr : Rel ρ v V) (e : s.run P w = .ok V w) : OpVal P w0 ρ h w s v h :=
  ⟨ρ, V, w, Sub.refl _, Kept.refl _ _, hs, hr, e⟩
theorem kept_put {b : Key} {o' : AObj} {L : Loc} (hb : ρ b = some L) : Kept ρ h ρ (h.put b o') := by
  intro k x g e
  refine ⟨e, ?_⟩
  have hne : b ≠ k := fun he => by subst he; rw [hb] at e; cases e
  rw [Heap.get_put_other h b k o' hne]; exact g
theorem kept_add {b : Key} {o : AObj} {L : Loc} (hb : h.get b = none) : Kept ρ h (ρ.add b L) (h.put b o) := by
  intro k x g e
  have hne : b ≠ k := fun he => by subst he; rw [hb] at g; cases g
  exact ⟨by simp [Rho.add, hne, e], by rw [Heap.get_put_other h b k o hne]; exact g⟩
/-- a new object: the evaluator's 'alloc' and the world's -/
theorem alloc_ok (hs : Sim w0 ρ h w) {o : AObj} {O : Obj} {k : Key → Heap → Res} {s : Sem Value} {L : Loc} (hL : L.B = w.heap.size)
    (ho : ∀ b, ρ b = none → ObjRel w0.heap.size (ρ.add b L) L (some O) o)
    (hk : ∀ b h', ρ b = none → Sub ρ (ρ.add b L) → Kept ρ h (ρ.add b L) h' → Sim w0 (ρ.add b L) h' (w.alloc O) → ValOk P w0 ρ h w s (k b h')) : ValOk P w0 ρ h w s (h.alloc o k) := by
  obtain ⟨t, n⟩ := h
  show ValOk P w0 ρ _ w s (Heap.allocT t n o k)
  unfold Heap.allocT
  cases e : t.get n with
  | some x => exact trivial
  | none =>
    have hb : (Heap.mk t n).get n = none := e
    have hn := hs.none_of_get hb
    have h1 : Sim w0 (ρ.add n L) ((Heap.mk t n).put n o) (w.alloc O) := hs.alloc hb hL (ho n hn)
    have h2 : Sim w0 (ρ.add n L) (Heap.mk (t.set o n) (incr n)) (w.alloc O) := ⟨h1.os, h1.out, h1.size, h1.old, h1.obj, h1.inj⟩
    have h3 : Kept ρ (Heap.mk t n) (ρ.add n L) (Heap.mk (t.set o n) (incr n)) := fun k x g e => kept_add (h := .mk t n) (o := o) (L := L) hb k x g e
    exact hk n _ hn (Rho.sub_add hn) h3 h2
theorem okv_ok {x : Option AV} {why : String} {s : Sem Value} (hx : ∀ v, x = some v → OpVal P w0 ρ h w s v h) : ValOk P w0 ρ h w s (okv x h why) := by
  cases x with
  | none => exact trivial
  | some v => exact hx v rfl
theorem cond_ok {b : Bool} {x : Res} {y : Res} {s : Sem Value} (hx : b = true → ValOk P w0 ρ h w s x) (hy : b = false → ValOk P w0 ρ h w s y) : ValOk P w0 ρ h w s (cond b x y) := by
  cases b
  · exact hy rfl
  · exact hx rfl
theorem bad_ok {s : Sem Value} {m : String} : ValOk P w0 ρ h w s (.bad m) := trivial
/-! reading cells -/
theorem cells_get (hs : Sim w0 ρ h w) {b : Key} {L : Loc} (hb : ρ b = some L) {cs : List AV} (hc : cellsOf (h.get b) = some cs) :
    ∃ C e q, w.heap[L.B]? = some (.cells C e q) ∧ CellsRel ρ cs C L.base := by
  obtain ⟨o, g, _, r⟩ := hs.obj b L hb
  rw [g] at hc
  cases o with
  | cells e cs' opn fz =>
    have : cs' = cs := by simpa [cellsOf] using hc
    subst this
    obtain ⟨_, C, q, hO, _, _, hC, _⟩ := r
    exact ⟨C, e, q, hO, hC⟩
  | fixed e cs' =>
    have : cs' = cs := by simpa [cellsOf] using hc
    subst this
    obtain ⟨C, q, ⟨e', hO⟩, _, hC⟩ := r
    exact ⟨C, e', q, hO, hC⟩
  | _ => simp [cellsOf] at hc
theorem cell_at {cs : List AV} {C : Array Value} {base i : Nat} {v : AV} (hC : CellsRel ρ cs C base) (hv : cs[i]? = some v) : ∃ V, C[base + i]? = some V ∧ Rel ρ v V := by
  obtain ⟨V, e, r⟩ := hC.2.get? i hv
  rw [List.getElem?_take] at e
  split at e
  · rw [List.getElem?_drop] at e
    exact ⟨V, by simpa using e, r⟩
  · cases e
theorem run_loadCellsFrom {B o : Nat} : ∀ (n i : Nat) (acc : Array Value) (Vs : List Value), Vs.length = n → (∀ j V, Vs[j]? = some V → w.cell? ⟨B, o + (i + j), none⟩ = some V) →
    (loadCellsFrom ⟨B, o, none⟩ i n acc).run P w = .ok (acc ++ Vs.toArray) w := by
  intro n
  induction n with
  | zero => intro i acc Vs hl _; cases Vs with
    | nil => simp [loadCellsFrom]
    | cons => simp at hl
  | succ n ih =>
    intro i acc Vs hl hc
    cases Vs with
    | nil => simp at hl
    | cons V Vs =>
      have h0 := hc 0 V (by simp)
      have ha : (⟨B, o, none⟩ : Addr).add i = ⟨B, o + i, none⟩ := by unfold Addr.add; split <;> simp_all
      simp only [loadCellsFrom, Sem.run_bind, run_load, ha]
      simp only [Nat.add_zero] at h0
      rw [h0]
      simp only [Result.andThen_ok]
      rw [ih (i + 1) (acc.push V) Vs (by simpa using hl) (fun j U hU => by have := hc (j + 1) U (by simpa using hU); rw [show o + (i + 1 + j) = o + (i + (j + 1)) by omega]; exact this)]
      simp
theorem load_cells (hs : Sim w0 ρ h w) {b : Key} {L : Loc} (hb : ρ b = some L) {off n : Nat} {cs : List AV} (hc : cellsAt h b off n = some cs) :
    ∃ Vs, RelL ρ cs Vs ∧ (loadCells ⟨L.B, L.base + off, none⟩ n).run P w = .ok Vs.toArray w := by
  unfold cellsAt at hc
  cases hg : cellsOf (h.get b) with
  | none => rw [hg] at hc; cases hc
  | some all =>
    rw [hg] at hc
    simp only [take_eq, drop_eq, len_eq] at hc
    obtain ⟨C, e, q, hO, hC⟩ := cells_get hs hb hg
    cases hl : Nat.beq ((all.drop off).take n).length n with
    | false => rw [hl] at hc; cases hc
    | true =>
      rw [hl] at hc
      have hcs : (all.drop off).take n = cs := by simpa using hc
      have hlen : ((all.drop off).take n).length = n := Nat.eq_of_beq_eq_true hl
      subst hcs
      have hr := (hC.2.drop off).take n
      refine ⟨_, hr, ?_⟩
      unfold loadCells
      rw [run_loadCellsFrom n 0 #[] _ (by rw [hr.length]; exact hlen)]
      · simp
      · intro j V hV
        have hj : ((List.take all.length (C.toList.drop L.base)).drop off)[j]? = some V := by
          rw [List.getElem?_take] at hV
          split at hV
          · exact hV
          · cases hV
        rw [List.getElem?_drop, List.getElem?_take] at hj
        split at hj
        · rw [List.getElem?_drop] at hj
          simp only [World.cell?, hO]
          rw [show L.base + off + (0 + j) = L.base + (off + j) by omega]
          simpa using hj
        · cases hj
end
end Go.VM
namespace Go.VM
section
variable {P : Program} {w0 : World} {ρ : Rho} {h : Heap} {w : World}
theorem known_info {t : Nat} {d : TypeDesc} (hd : P.underlying t = some d) : ∃ i, P.info? t = some i := by
  unfold Program.underlying at hd
  cases hi : P.info? t with
  | none => simp [hi] at hd
  | some i => exact ⟨i, rfl⟩
theorem szOf_eq {t : Nat} {i : TypeInfo} (hi : P.info? t = some i) : szOf P t = i.size := by simp [szOf, hi]
theorem run_sizeOf {t : Nat} {i : TypeInfo} (hi : P.info? t = some i) : (sizeOf t).run P w = .ok i.size w := by simp [sizeOf, typeInfo, hi]
theorem run_isAgg {t : Nat} (hk : known P t = true) : (isAgg t).run P w = .ok (isAggT P t) w := by
  unfold known at hk
  cases hd : P.underlying t with
  | none => simp [hd] at hk
  | some d => cases d <;> simp [isAgg, underlying, hd, isAggT]
theorem agg_known {t : Nat} (hk : isAggT P t = true) : known P t = true := by
  unfold isAggT at hk
  cases hd : P.underlying t with
  | none => simp [hd] at hk
  | some d => simp [known, hd]
theorem info_of_known {t : Nat} (hk : known P t = true) : ∃ i, P.info? t = some i := by
  unfold known at hk
  cases hd : P.underlying t with
  | none => simp [hd] at hk
  | some d => exact known_info hd
theorem cellAt_some {b : Key} {off : Nat} {v : AV} (hv : cellAt h b off = some v) : ∃ cs, cellsOf (h.get b) = some cs ∧ cs[off]? = some v := by
  unfold cellAt at hv
  cases hg : cellsOf (h.get b) with
  | none => rw [hg] at hv; cases hv
  | some cs =>
    rw [hg] at hv
    simp only [hd_eq, drop_eq] at hv
    exact ⟨cs, rfl, by simpa [List.head?_drop] using hv⟩
theorem load_cell (hs : Sim w0 ρ h w) {b : Key} {L : Loc} (hb : ρ b = some L) {off : Nat} {v : AV} (hv : cellAt h b off = some v) :
    ∃ V, Rel ρ v V ∧ w.cell? ⟨L.B, L.base + off, none⟩ = some V := by
  obtain ⟨cs, hc, hi⟩ := cellAt_some hv
  obtain ⟨C, e, q, hO, hC⟩ := cells_get hs hb hc
  obtain ⟨V, hV, r⟩ := cell_at hC hi
  exact ⟨V, r, by simp [World.cell?, hO, hV]⟩
theorem loadVar_ok (hs : Sim w0 ρ h w) {b : Key} {L : Loc} (hb : ρ b = some L) {off t : Nat} {v : AV}
    (hv : (cond (isAggT P t) ((cellsAt h b off (szOf P t)).map .agg) (cond (known P t) (cellAt h b off) none)) = some v) :
    ∃ V, Rel ρ v V ∧ (loadVar t ⟨L.B, L.base + off, none⟩).run P w = .ok V w := by
  unfold loadVar
  cases ha : isAggT P t with
  | true =>
    rw [ha] at hv
    have hk := agg_known ha
    obtain ⟨i, hi⟩ := info_of_known hk
    cases hc : cellsAt h b off (szOf P t) with
    | none => rw [hc] at hv; cases hv
    | some cs =>
      rw [hc] at hv
      have : v = .agg cs := by simpa using hv.symm
      subst this
      obtain ⟨Vs, hr, hrun⟩ := load_cells (P := P) hs hb hc
      rw [szOf_eq hi] at hrun
      refine ⟨.agg Vs.toArray, .agg cs Vs hr, ?_⟩
      simp [run_isAgg hk, ha, run_sizeOf hi, hrun]
  | false =>
    rw [ha] at hv
    cases hk : known P t with
    | false => rw [hk] at hv; cases hv
    | true =>
      rw [hk] at hv
      obtain ⟨V, r, hc⟩ := load_cell hs hb (v := v) hv
      refine ⟨V, r, ?_⟩
      simp [run_isAgg hk, ha, hc]
theorem xLoad_ok (hs : Sim w0 ρ h w) {t : Nat} {a : AV} {A : Value} (ha : Rel ρ a A) : ValOk P w0 ρ h w (Instr.loadAt t A) (xLoad P t a h) := by
  cases ha with
  | ptr b off L hb =>
    have key : ∀ v, (cond (isAggT P t) ((cellsAt h b off (szOf P t)).map .agg) (cond (known P t) (cellAt h b off) none)) = some v →
        OpVal P w0 ρ h w (Instr.loadAt t (.pointer (some ⟨L.B, L.base + off, none⟩))) v h := by
      intro v hv
      obtain ⟨V, r, hrun⟩ := loadVar_ok (P := P) hs hb hv
      exact here hs r (by simp [Instr.loadAt, Instr.sureAddr, hrun])
    show ValOk P w0 ρ h w _ (cond (isAggT P t) (okv ((cellsAt h b off (szOf P t)).map .agg) h "load agg") (cond (known P t) (okv (cellAt h b off) h "load") (.bad "load type")))
    cases ha : isAggT P t with
    | true => exact okv_ok fun v hv => key v (by rw [ha]; exact hv)
    | false =>
      cases hk : known P t with
      | true => exact okv_ok fun v hv => key v (by rw [ha, hk]; exact hv)
      | false => exact trivial
  | _ => exact trivial
/-! writing cells -/
def setBlock (w : World) (B : Nat) (O : Obj) : World := { w with heap := w.heap.setIfInBounds B O }
theorem setBlock_at {B : Nat} {O : Obj} (hB : B < w.heap.size) : (setBlock w B O).heap[B]? = some O := by simp [setBlock, hB]
theorem setBlock_other {B k : Nat} {O : Obj} (hk : k ≠ B) : (setBlock w B O).heap[k]? = w.heap[k]? := by
  simp [setBlock, Ne.symm hk]
theorem setCell_eq {B o : Nat} {C : Array Value} {e : TypeId} {q : Nat × Nat} {v : Value} (hO : w.heap[B]? = some (.cells C e q)) :
    w.setCell ⟨B, o, none⟩ v = setBlock w B (.cells (C.setIfInBounds o v) e q) := by
  have hB : B < w.heap.size := (Array.getElem?_eq_some_iff.1 hO).1
  have hv : w.heap[B] = .cells C e q := (Array.getElem?_eq_some_iff.1 hO).2
  unfold World.setCell setBlock
  congr 1
  apply Array.ext_getElem?
  intro i
  simp only [Array.getElem?_modify, Array.getElem?_setIfInBounds]
  by_cases hi : B = i
  · subst hi; simp [hB, hv]
  · simp [hi]
theorem setBlock_setBlock {B : Nat} {O O' : Obj} : setBlock (setBlock w B O) B O' = setBlock w B O' := by simp [setBlock]
theorem run_storeCells {B o : Nat} {e : TypeId} {q : Nat × Nat} : ∀ (vs : List Value) (i : Nat) (w : World) (C : Array Value), w.heap[B]? = some (.cells C e q) → o + i + vs.length ≤ C.size →
    (∀ v ∈ vs, v.oneCell' = true) → (∀ j, o + i ≤ j → j < o + i + vs.length → ¬ (q.1 ≤ j ∧ j < q.2)) →
    (storeCells ⟨B, o, none⟩ vs i).run P w = .ok () (setBlock w B (.cells (C.toList.take (o + i) ++ vs ++ C.toList.drop (o + i + vs.length)).toArray e q)) := by
  intro vs
  induction vs with
  | nil =>
    intro i w C hO _ _ _
    simp only [storeCells, Sem.run_pure]
    congr 1
    have hB : B < w.heap.size := (Array.getElem?_eq_some_iff.1 hO).1
    have hv : w.heap[B] = .cells C e q := (Array.getElem?_eq_some_iff.1 hO).2
    unfold setBlock
    simp only [List.append_nil, List.length_nil, Nat.add_zero, List.take_append_drop]
    have : w.heap.setIfInBounds B (.cells C e q) = w.heap := by
      apply Array.ext_getElem?
      intro k
      rw [Array.getElem?_setIfInBounds]
      split
      · rename_i hk; subst hk; simp [hB, hv]
      · rfl
    simp [this]
  | cons v vs ih =>
    intro i w C hO hlen h1 hfz
    have hlt : o + i < C.size := by simp at hlen; omega
    have ha : (⟨B, o, none⟩ : Addr).add i = ⟨B, o + i, none⟩ := by unfold Addr.add; split <;> simp_all
    have hc : w.cell? ⟨B, o + i, none⟩ = some C[o + i] := by simp [World.cell?, hO, hlt]
    have hf : w.frozen? ⟨B, o + i, none⟩ = false := by
      have := hfz (o + i) (Nat.le_refl _) (by simp)
      simp only [World.frozen?, hO]
      simp only [Bool.and_eq_false_iff, decide_eq_false_iff_not]
      by_cases hq : q.1 ≤ o + i
      · exact .inr (fun hh => this ⟨hq, hh⟩)
      · exact .inl hq
    simp only [storeCells, Sem.run_bind, ha, run_store P w _ v .plain (h1 v (by simp)), hc, hf]
    simp only [Bool.false_eq_true, if_false, Result.andThen_ok]
    have hB : B < w.heap.size := (Array.getElem?_eq_some_iff.1 hO).1
    rw [setCell_eq hO]
    rw [ih (i + 1) _ (C.setIfInBounds (o + i) v) (setBlock_at hB) (by simp at hlen ⊢; omega) (fun u hu => h1 u (by simp [hu])) (fun j hj hj' => hfz j (by omega) (by simp; omega))]
    rw [setBlock_setBlock]
    congr 4
    have e1 : (C.setIfInBounds (o + i) v).toList = C.toList.set (o + i) v := by simp
    rw [e1]
    have hl : o + i < C.toList.length := by simpa using hlt
    rw [show o + (i + 1) = (o + i) + 1 by omega, List.take_succ_eq_append_getElem (by simpa using hlt), List.getElem_set_self]
    simp only [List.length_cons]
    rw [List.take_set_of_le (Nat.le_refl _), List.drop_set_of_lt (by omega)]
    simp [show o + i + 1 + vs.length = o + i + (vs.length + 1) by omega]
end
end Go.VM
namespace Go.VM
theorem one_rel {ρ : Rho} {v : AV} {V : Value} (hr : Rel ρ v V) (h1 : v.one = true) : V.oneCell' = true := by
  cases hr <;> first | rfl | (simp [AV.one] at h1)
theorem allOne_rel {ρ : Rho} : ∀ {vs : List AV} {Vs : List Value}, RelL ρ vs Vs → allOne vs = true → ∀ V ∈ Vs, V.oneCell' = true
  | _, _, .nil, _, V, hV => by simp at hV
  | _, _, .cons v V' r R hv hr, h1, V, hV => by
    have hb : v.one = true ∧ allOne r = true := by
      simp only [allOne] at h1
      cases hv1 : v.one with
      | true => rw [hv1] at h1; exact ⟨rfl, h1⟩
      | false => rw [hv1] at h1; cases h1
    rcases List.mem_cons.1 hV with rfl | hm
    · exact one_rel hv hb.1
    · exact allOne_rel hr hb.2 V hm
theorem splice_eq (cs : List AV) (off : Nat) (vs : List AV) : splice cs off vs = cs.take off ++ (vs ++ cs.drop (off + vs.length)) := by
  simp [splice, cat_eq, take_eq, drop_eq, len_eq]
theorem splice_length {cs : List AV} {off : Nat} {vs : List AV} (h : off + vs.length ≤ cs.length) : (splice cs off vs).length = cs.length := by
  simp [splice_eq]; omega
section
variable {P : Program} {w0 : World} {ρ : Rho} {h : Heap} {w : World}
theorem CellsRel.splice {cs : List AV} {C : Array Value} {base off : Nat} {vs : List AV} {Vs : List Value} (hC : CellsRel ρ cs C base) (hv : RelL ρ vs Vs) (hle : off + vs.length ≤ cs.length) :
    CellsRel ρ (Go.VM.splice cs off vs) (C.toList.take (base + off) ++ Vs ++ C.toList.drop (base + off + Vs.length)).toArray base := by
  have hl := hv.length
  have hsz := hC.1
  refine ⟨by rw [splice_length hle]; simp; omega, ?_⟩
  rw [splice_length hle, splice_eq]
  have e : ((C.toList.take (base + off) ++ Vs ++ C.toList.drop (base + off + Vs.length)).toArray.toList.drop base).take cs.length =
      ((C.toList.drop base).take cs.length).take off ++ (Vs ++ ((C.toList.drop base).take cs.length).drop (off + vs.length)) := by
    apply List.ext_getElem?
    intro i
    simp only [List.getElem?_take, List.getElem?_drop, List.getElem?_append, List.length_append, List.length_take, List.length_drop, Array.length_toList]
    rw [hl]
    by_cases h1 : i < off
    · have a1 : i < cs.length := by omega
      have a2 : base + i < min (base + off) C.size := by omega
      have a3 : base + i < min (base + off) C.size + vs.length := by omega
      have a4 : i < min off (min cs.length (C.size - base)) := by omega
      have a5 : base + i < base + off := by omega
      simp [a1, a2, a3, a4, a5, h1]
    · by_cases h2 : i < off + vs.length
      · have a1 : i < cs.length := by omega
        have a2 : ¬ base + i < min (base + off) C.size := by omega
        have a3 : base + i < min (base + off) C.size + vs.length := by omega
        have a4 : ¬ i < min off (min cs.length (C.size - base)) := by omega
        have a5 : i - min off (min cs.length (C.size - base)) < vs.length := by omega
        have a6 : base + i - min (base + off) C.size = i - min off (min cs.length (C.size - base)) := by omega
        simp [a1, a2, a3, a4, a5, a6]
      · by_cases h3 : i < cs.length
        · have a2 : ¬ base + i < min (base + off) C.size + vs.length := by omega
          have a4 : ¬ i < min off (min cs.length (C.size - base)) := by omega
          have a5 : ¬ i - min off (min cs.length (C.size - base)) < vs.length := by omega
          have a6 : off + vs.length + (i - min off (min cs.length (C.size - base)) - vs.length) = i := by omega
          have a7 : base + off + vs.length + (base + i - (min (base + off) C.size + vs.length)) = base + i := by omega
          simp [h3, a2, a4, a5, a6, a7]
        · have a4 : ¬ i < min off (min cs.length (C.size - base)) := by omega
          have a5 : ¬ i - min off (min cs.length (C.size - base)) < vs.length := by omega
          have a6 : ¬ off + vs.length + (i - min off (min cs.length (C.size - base)) - vs.length) < cs.length := by omega
          simp [h3, a4, a5, a6]
  rw [e]
  exact (hC.2.take off).append (hv.append (hC.2.drop (off + vs.length)))
theorem setCells_ok (hs : Sim w0 ρ h w) {b : Key} {L : Loc} (hb : ρ b = some L) {off : Nat} {vs : List AV} {Vs : List Value} (hv : RelL ρ vs Vs) {h' : Heap} (hh : setCells h b off vs = some h') :
    ∃ w', (storeCells ⟨L.B, L.base + off, none⟩ Vs 0).run P w = .ok () w' ∧ Sim w0 ρ h' w' ∧ Kept ρ h ρ h' := by
  unfold setCells at hh
  obtain ⟨o, g, hlt, r⟩ := hs.obj b L hb
  rw [g] at hh
  cases o with
  | cells e cs opn fz =>
    simp only [len_eq] at hh
    cases h1 : Nat.ble (off + vs.length) cs.length with
    | false => rw [h1] at hh; cases hh
    | true =>
      cases h2 : allOne vs with
      | false => rw [h1, h2] at hh; cases hh
      | true =>
        cases h3 : Nat.ble fz off with
        | false => rw [h1, h2, h3] at hh; cases hh
        | true =>
          rw [h1, h2, h3] at hh
          have hh' : h.put b (.cells e (splice cs off vs) opn fz) = h' := by simpa using hh
          subst hh'
          have hle : off + vs.length ≤ cs.length := Nat.le_of_ble_eq_true h1
          have hfz : fz ≤ off := Nat.le_of_ble_eq_true h3
          obtain ⟨hN, C, q, hO, hsz, hq, hC, hop, hq0⟩ := r
          have hl := hv.length
          have hCl := hC.1
          have hrun := run_storeCells (P := P) (B := L.B) (o := L.base + off) (e := e) (q := q) Vs 0 w C hO (by omega) (allOne_rel hv h2)
            (fun j hj hj' hqq => by rcases hq j hqq.1 hqq.2 with hh | hh <;> omega)
          refine ⟨_, hrun, ?_, kept_put hb⟩
          simp only [Nat.add_zero]
          refine hs.put (o := .cells e cs opn fz) (O := .cells (C.toList.take (L.base + off) ++ Vs ++ C.toList.drop (L.base + off + Vs.length)).toArray e q) hb g rfl hN rfl rfl (by simp [setBlock]) (fun k hk => setBlock_other hk) (setBlock_at hlt) ?_
          refine ⟨hN, _, q, rfl, ?_, hq, hC.splice hv hle, fun ho => ⟨(hop ho).1, by rw [splice_length hle]; exact (hop ho).2⟩, hq0⟩
          simp; omega
  | _ => cases hh
theorem cells_rel {v : AV} {V : Value} (hr : Rel ρ v V) (hsure : v.sure = true) : RelL ρ v.cells V.cells.toList := by
  cases hr with
  | agg a A ha => exact ha
  | junk V => simp [AV.sure] at hsure
  | _ => (simp only [AV.cells, Value.cells]; exact .cons _ _ _ _ (by constructor <;> assumption) .nil)
end
end Go.VM
namespace Go.VM
/-! strings as numbers -/
theorem strBytes_code : ∀ l : List UInt8, strBytes l.length (bytesCode l) = l
  | [] => rfl
  | b :: r => by
    have hb := b.toNat_lt
    have h1 : (b.toNat + 256 * bytesCode r) / 256 = bytesCode r := by omega
    have h2 : UInt8.ofNat (b.toNat + 256 * bytesCode r) = b := by
      apply UInt8.toNat_inj.1
      simp
    simp only [List.length_cons, strBytes, bytesCode, h1, h2, strBytes_code r]
theorem bytesCode_lt : ∀ l : List UInt8, bytesCode l < 256 ^ l.length
  | [] => by simp [bytesCode]
  | b :: r => by
    have hb := b.toNat_lt
    have := bytesCode_lt r
    simp only [bytesCode, List.length_cons, Nat.pow_succ]
    omega
theorem strOf_code (s : ByteArray) : strOf s.data.toList.length (bytesCode s.data.toList) = s := by
  obtain ⟨⟨l⟩⟩ := s
  simp [strOf, strBytes_code]
theorem strBytes_length : ∀ (n c : Nat), (strBytes n c).length = n
  | 0, _ => rfl
  | n + 1, c => by simp [strBytes, strBytes_length n]
mutual
theorem ofVal_rel (ρ : Rho) : ∀ (V : Value) (v : AV), ofVal V = some v → Rel ρ v V
  | .bool b, v, h => by simp [ofVal] at h; subst h; exact .bool b
  | .int k n, v, h => by simp [ofVal] at h; subst h; exact .int k n
  | .float k b, v, h => by simp [ofVal] at h; subst h; exact .float k b
  | .string s, v, h => by
    simp only [ofVal, Option.some.injEq] at h
    subst h
    have := Rel.str (ρ := ρ) s.data.toList.length (bytesCode s.data.toList) (bytesCode_lt _)
    rwa [strOf_code] at this
  | .pointer none, v, h => by simp [ofVal] at h; subst h; exact .nilPtr
  | .pointer (some _), v, h => by simp [ofVal] at h
  | .slice none 0 0, v, h => by simp [ofVal] at h; subst h; exact .nilSlice
  | .slice none 0 (_ + 1), v, h => by simp [ofVal] at h
  | .slice none (_ + 1) _, v, h => by simp [ofVal] at h
  | .slice (some _) _ _, v, h => by simp [ofVal] at h
  | .map none, v, h => by simp [ofVal] at h; subst h; exact .nilMap
  | .map (some _), v, h => by simp [ofVal] at h
  | .nilFunc, v, h => by simp [ofVal] at h; subst h; exact .nilFunc
  | .nilIface, v, h => by simp [ofVal] at h; subst h; exact .nilIface
  | .agg ⟨cs⟩, v, h => by
    simp only [ofVal, Option.map_eq_some_iff] at h
    obtain ⟨a, ha, rfl⟩ := h
    exact .agg a cs (ofVals_rel ρ cs a ha)
  | .tuple ⟨[]⟩, v, h => by simp [ofVal] at h; subst h; exact .undef
  | .tuple ⟨_ :: _⟩, v, h => by simp [ofVal] at h
  | .complex _ _ _, v, h => by simp [ofVal] at h
  | .chan _, v, h => by simp [ofVal] at h
  | .func _ _ _, v, h => by simp [ofVal] at h
  | .iface _ _, v, h => by simp [ofVal] at h
theorem ofVals_rel (ρ : Rho) : ∀ (V : List Value) (v : List AV), ofVals V = some v → RelL ρ v V
  | [], v, h => by simp [ofVals] at h; subst h; exact .nil
  | x :: r, v, h => by
    simp only [ofVals] at h
    cases hx : ofVal x with
    | none => simp [hx] at h
    | some a =>
      cases hr : ofVals r with
      | none => simp [hx, hr] at h
      | some b =>
        simp [hx, hr] at h
        subst h
        exact .cons a x b r (ofVal_rel ρ x a hx) (ofVals_rel ρ r b hr)
end
section
variable {P : Program} {w0 : World} {ρ : Rho} {h : Heap} {w : World}
theorem ev_rel {T : Slots} {t : Array Value} (hT : TRel ρ T t) (E : Operand → Value) (hE : ∀ i, E (.tmp i) = t.getD i Go.undef) (hc : ∀ v, E (.const v) = v) (hf : ∀ f, E (.func f) = .func (.func f) #[] #[])
    (hg : ∀ g, g < P.globals.size → ∃ L, ρ (gkey g) = some L ∧ E (.global g) = .pointer (some ⟨L.B, L.base, none⟩)) (x : Operand) : Rel ρ (ev P T x) (E x) := by
  cases x with
  | tmp i => rw [hE]; exact hT.at_ i
  | const v =>
    rw [hc]
    show Rel ρ (getJ (ofVal v)) v
    cases ho : ofVal v with
    | none => exact .junk v
    | some a => exact ofVal_rel ρ v a ho
  | func f => rw [hf]; exact .func f [] [] [] [] .nil .nil
  | global g =>
    show Rel ρ (cond (Nat.blt g P.globals.size) (.ptr (gkey g) 0) .junk) _
    cases hb : Nat.blt g P.globals.size with
    | false => exact .junk _
    | true =>
      obtain ⟨L, hL, hEg⟩ := hg g (by simpa [Nat.blt_eq] using hb)
      rw [hEg]
      exact .ptr (gkey g) 0 L hL
/-! operations without a value -/
def OpUnit (P : Program) (w0 : World) (ρ : Rho) (h : Heap) (w : World) (s : Sem Unit) (h' : Heap) : Prop :=
  ∃ ρ' w', Sub ρ ρ' ∧ Kept ρ h ρ' h' ∧ Sim w0 ρ' h' w' ∧ s.run P w = .ok () w'
def UnitOk (P : Program) (w0 : World) (ρ : Rho) (h : Heap) (w : World) (s : Sem Unit) : Res → Prop
  | .val v h' => v = .undef ∧ OpUnit P w0 ρ h w s h'
  | .bad _ => True
  | _ => False
theorem xStore_ok (hs : Sim w0 ρ h w) {t : Nat} {a x : AV} {A X : Value} (ha : Rel ρ a A) (hx : Rel ρ x X) : UnitOk P w0 ρ h w (Instr.storeAt t A X) (xStore P t a x h) := by
  cases ha with
  | ptr b off L hb =>
    show UnitOk P w0 ρ h w _ (cond (and (known P t) (Nat.beq (len x.cells) (szOf P t))) (match setCells h b off x.cells with | some h => .val .undef h | none => .bad "store") (.bad "store size"))
    cases hk : known P t with
    | false => exact trivial
    | true =>
      cases hl : Nat.beq (len x.cells) (szOf P t) with
      | false => exact trivial
      | true =>
        cases hc : setCells h b off x.cells with
        | none => exact trivial
        | some h' =>
          have hsure : x.sure = true := by
            cases x with
            | junk =>
              exfalso
              unfold setCells at hc
              split at hc
              · simp only [AV.cells, allOne, AV.one] at hc
                revert hc
                cases Nat.ble (off + len [AV.junk]) _ <;> simp
              · cases hc
            | _ => rfl
          have hr := cells_rel hx hsure
          obtain ⟨w', hrun, hs', hkept⟩ := setCells_ok (P := P) hs hb hr hc
          obtain ⟨i, hi⟩ := info_of_known hk
          have hsz : X.cells.size = i.size := by
            have e1 := hr.length
            have e2 := Nat.eq_of_beq_eq_true hl
            rw [len_eq, szOf_eq hi] at e2
            simpa using e1.trans e2
          refine ⟨rfl, ρ, w', Sub.refl _, hkept, hs', ?_⟩
          simp only [Instr.storeAt, Instr.sureAddr, storeVar]
          simp [run_sizeOf hi, hsz, hrun]
  | _ => exact trivial
theorem closed_obj {cs : List AV} {Cs : List Value} {b : Key} {e : Nat} {N : Nat} (hN : N ≤ w.heap.size) (hr : RelL ρ cs Cs) (hsub : Sub ρ (ρ.add b ⟨w.heap.size, 0, cs.length⟩)) :
    ObjRel N (ρ.add b ⟨w.heap.size, 0, cs.length⟩) ⟨w.heap.size, 0, cs.length⟩ (some (.cells Cs.toArray e)) (.cells e cs false 0) := by
  have hl := hr.length
  refine ⟨hN, Cs.toArray, (0, 0), rfl, by simpa using hl, fun j h1 h2 => by simp at h2, ⟨by simp [hl], ?_⟩, fun _ => ⟨rfl, rfl⟩, fun _ _ => rfl⟩
  simpa [hl, List.take_of_length_le (Nat.le_of_eq hl)] using hr.mono hsub
end
end Go.VM
namespace Go.VM
section
variable {P : Program} {w0 : World} {ρ : Rho} {h : Heap} {w : World}
theorem zeroOf_some {t : Nat} {z : AV} (hz : zeroOf P t = some z) : ∃ Z, (zeroValue t).run P w = .ok Z w ∧ ofVal Z = some z := by
  unfold zeroOf at hz
  cases hi : P.info? t with
  | none => simp [hi] at hz
  | some i =>
    cases hzz : i.zero with
    | none => simp [hi, hzz] at hz
    | some Z =>
      refine ⟨Z, by simp [zeroValue, typeInfo, hi, hzz], ?_⟩
      simpa [hi, hzz] using hz
theorem sure_ofVal {V : Value} {v : AV} (hv : ofVal V = some v) : v.sure = true := by
  cases V with
  | pointer a => cases a <;> simp [ofVal] at hv; subst hv; rfl
  | map a => cases a <;> simp [ofVal] at hv; subst hv; rfl
  | slice a l c =>
    cases a with
    | some _ => simp [ofVal] at hv
    | none => cases l <;> cases c <;> simp [ofVal] at hv; subst hv; rfl
  | agg cs =>
    obtain ⟨cs⟩ := cs
    simp only [ofVal, Option.map_eq_some_iff] at hv
    obtain ⟨a, _, rfl⟩ := hv; rfl
  | tuple cs =>
    obtain ⟨cs⟩ := cs
    cases cs <;> simp [ofVal] at hv; subst hv; rfl
  | _ => simp [ofVal] at hv <;> (subst hv; rfl)
/-- a new variable that holds these cells -/
theorem newCells_ok (hs : Sim w0 ρ h w) {e : Nat} {cs : List AV} {Cs : List Value} (hr : RelL ρ cs Cs) {s : Sem Value} {V : Value}
    (hrun : s.run P w = .ok V (w.alloc (.cells Cs.toArray e))) {v : Key → AV} (hv : ∀ b, Rel (ρ.add b ⟨w.heap.size, 0, cs.length⟩) (v b) V) :
    ValOk P w0 ρ h w s (h.alloc (.cells e cs false 0) (fun b h => .val (v b) h)) :=
  alloc_ok hs (L := ⟨w.heap.size, 0, cs.length⟩) rfl (fun _ hn => closed_obj hs.size hr (Rho.sub_add hn))
    (fun b _ _ hsub hk hs' => ⟨_, V, _, hsub, hk, hs', hv b, hrun⟩)
theorem ptr_new {b : Key} {n : Nat} : Rel (ρ.add b ⟨w.heap.size, 0, n⟩) (.ptr b 0) (.pointer (some ⟨w.heap.size, 0, none⟩)) :=
  Rel.ptr b 0 ⟨w.heap.size, 0, n⟩ (Rho.add_same _ _ _)
theorem xAlloc_ok (hs : Sim w0 ρ h w) {e : Nat} : ValOk P w0 ρ h w (Instr.alloc e true (.tuple #[])) (xAlloc P e h) := by
  unfold xAlloc
  cases hz : zeroOf P e with
  | none => exact trivial
  | some z =>
    obtain ⟨Z, hrun, ho⟩ := zeroOf_some (w := w) hz
    have hr := cells_rel (ofVal_rel ρ Z z ho) (sure_ofVal ho)
    refine newCells_ok hs hr (V := .pointer (some ⟨w.heap.size, 0, none⟩)) ?_ (fun b => ptr_new)
    simp [Instr.alloc, hrun, newVar, newRow]
theorem xBox_ok (hs : Sim w0 ρ h w) {e : Nat} {v : AV} {V : Value} (hv : Rel ρ v V) : ValOk P w0 ρ h w (Instr.box e V) (xBox e v h) := by
  unfold xBox
  refine cond_ok (fun hsure => ?_) (fun _ => trivial)
  refine newCells_ok hs (cells_rel hv hsure) (V := .pointer (some ⟨w.heap.size, 0, none⟩)) ?_ (fun b => ptr_new)
  simp [Instr.box, newVar, newRow]
theorem foldl_set (off : Nat) : ∀ (l : List Value) (k : Nat) (C : Array Value), off + k + l.length ≤ C.size →
    (l.zipIdx k).foldl (fun cs x => cs.setIfInBounds (off + x.2) x.1) C = (C.toList.take (off + k) ++ (l ++ C.toList.drop (off + k + l.length))).toArray := by
  intro l
  induction l with
  | nil => intro k C _; simp
  | cons v l ih =>
    intro k C hle
    have hlt : off + k < C.size := by simp at hle; omega
    simp only [List.zipIdx_cons, List.foldl_cons]
    rw [ih (k + 1) _ (by simp at hle ⊢; omega)]
    congr 1
    have e1 : (C.setIfInBounds (off + k) v).toList = C.toList.set (off + k) v := by simp
    rw [e1, show off + (k + 1) = (off + k) + 1 by omega, List.take_succ_eq_append_getElem (by simpa using hlt), List.getElem_set_self, List.take_set_of_le (Nat.le_refl _), List.drop_set_of_lt (by omega)]
    simp [show off + k + 1 + l.length = off + k + (l.length + 1) by omega]
theorem fill_ok {place : Nat → Option (Nat × Nat)} : ∀ {ps : List (Nat × AV)} {Ps : List (Nat × Value)} {cs : List AV} {Cs : List Value} {r : List AV},
    ps.length = Ps.length → (∀ i, (hi : i < ps.length) → (hi' : i < Ps.length) → ps[i].1 = Ps[i].1 ∧ Rel ρ ps[i].2 Ps[i].2) → RelL ρ cs Cs → fillA place cs ps = some r →
    ∃ R, Instr.fill place Cs.toArray Ps = some R ∧ RelL ρ r R.toList := by
  intro ps
  induction ps with
  | nil =>
    intro Ps cs Cs r hl _ hr hf
    cases Ps with
    | nil => simp [fillA] at hf; subst hf; exact ⟨Cs.toArray, rfl, by simpa using hr⟩
    | cons => simp at hl
  | cons p ps ih =>
    intro Ps cs Cs r hl hp hr hf
    cases Ps with
    | nil => simp at hl
    | cons Q Ps =>
      obtain ⟨i, v⟩ := p
      obtain ⟨I, V⟩ := Q
      have h0 := hp 0 (by simp) (by simp)
      simp only [List.getElem_cons_zero] at h0
      obtain ⟨rfl, hv⟩ := h0
      simp only [fillA] at hf
      cases hpl : place i with
      | none => simp [hpl] at hf
      | some os =>
        obtain ⟨off, size⟩ := os
        simp only [hpl] at hf
        cases hsure : v.sure with
        | false => simp [hsure] at hf
        | true =>
          cases hb : Nat.beq (len v.cells) size with
          | false => simp [hsure, hb] at hf
          | true =>
            cases hle : Nat.ble (off + size) (len cs) with
            | false => simp [hsure, hb, hle] at hf
            | true =>
              simp only [hsure, hb, hle, Bool.and_self, cond_true] at hf
              have hvc := cells_rel hv hsure
              have e1 : v.cells.length = size := by rw [← len_eq]; exact Nat.eq_of_beq_eq_true hb
              have e2 : off + size ≤ cs.length := by rw [← len_eq]; exact Nat.le_of_ble_eq_true hle
              have e3 := hvc.length
              have e4 := hr.length
              have hsp : RelL ρ (splice cs off v.cells) (Cs.take off ++ (V.cells.toList ++ Cs.drop (off + v.cells.length))) := by
                rw [splice_eq]; exact (hr.take off).append (hvc.append (hr.drop _))
              obtain ⟨R, hR, hRr⟩ := ih (Ps := Ps) (by simpa using hl) (fun j hj hj' => by have := hp (j + 1) (by simpa using hj) (by simpa using hj'); simpa only [List.getElem_cons_succ] using this) hsp hf
              refine ⟨R, ?_, hRr⟩
              rw [← hR]
              simp only [Instr.fill, hpl]
              have s1 : V.cells.size = size := by have := e3; simp at this; omega
              have c1 : ¬ (V.cells.size ≠ size || decide (off + V.cells.size > Cs.toArray.size)) = true := by simp [s1]; omega
              rw [if_neg (by simpa using c1)]
              congr 1
              rw [← Array.foldl_toList, Array.toList_zipIdx]
              rw [foldl_set off V.cells.toList 0 Cs.toArray (by simp; omega)]
              have : V.cells.toList.length = v.cells.length := e3
              simp [this]
end
end Go.VM
namespace Go.VM
section
variable {P : Program} {w0 : World} {ρ : Rho} {h : Heap} {w : World}
theorem run_underlying' {t : Nat} {d : TypeDesc} (hd : P.underlying t = some d) : (underlying t).run P w = .ok d w := by simp [underlying, hd]
/-- the parts of a literal: numbers alike, values related -/
def PartsRel (ρ : Rho) (ps : List (Nat × AV)) (Ps : List (Nat × Value)) : Prop :=
  ps.length = Ps.length ∧ ∀ i, (hi : i < ps.length) → (hi' : i < Ps.length) → ps[i].1 = Ps[i].1 ∧ Rel ρ ps[i].2 Ps[i].2
theorem mapM_places (fs : List Field) (hk : ∀ f ∈ fs, ∃ i, P.info? f.type = some i) :
    (fs.mapM (fun f => do pure (f.offset, ← sizeOf f.type)) : Sem (List (Nat × Nat))).run P w = .ok (fs.map fun f => (f.offset, szOf P f.type)) w := by
  induction fs with
  | nil => simp
  | cons f r ih =>
    obtain ⟨i, hi⟩ := hk f (by simp)
    have := ih (fun g hg => hk g (by simp [hg]))
    simp only [List.mapM_cons, Sem.run_bind, run_sizeOf hi, Result.andThen_ok, Sem.run_pure, this, List.map_cons, szOf_eq hi]
theorem xPick_ok (hs : Sim w0 ρ h w) {c a b : AV} {C A B : Value} (hc : Rel ρ c C) (ha : Rel ρ a A) (hb : Rel ρ b B) :
    ValOk P w0 ρ h w (do pure (if ← asBool C then A else B)) (xPick c a b h) := by
  cases hc with
  | bool t =>
    cases t
    · exact here hs (v := b) (V := B) hb (by simp [asBool])
    · exact here hs (v := a) (V := A) ha (by simp [asBool])
  | _ => exact trivial
theorem xExtract_ok (hs : Sim w0 ρ h w) {v : AV} {V : Value} (hv : Rel ρ v V) {i : Nat} : ValOk P w0 ρ h w (Instr.extract V i) (xExtract v i h) := by
  cases hv with
  | tup a A ha =>
    refine okv_ok fun x hx => ?_
    rw [hd_eq, drop_eq, List.head?_drop] at hx
    obtain ⟨X, hX, hr⟩ := ha.get? i hx
    exact here hs hr (by simp [Instr.extract, hX])
  | _ => exact trivial
theorem fieldOf_some {s f : Nat} {fd : Field} (hf : fieldOf P s f = some fd) : ∃ fs : Array Field, P.underlying s = some (.struct fs) ∧ fs[f]? = some fd := by
  unfold fieldOf at hf
  cases hu : P.underlying s with
  | none => simp [hu] at hf
  | some d =>
    cases d with
    | struct fs =>
      simp only [hu, hd_eq, drop_eq, List.head?_drop] at hf
      exact ⟨fs, rfl, by simpa using hf⟩
    | _ => simp [hu] at hf
theorem xFieldAddr_ok (hs : Sim w0 ρ h w) {s f : Nat} {v : AV} {V : Value} (hv : Rel ρ v V) : ValOk P w0 ρ h w (Instr.fieldAt s V f) (xFieldAddr P s f v h) := by
  cases hv with
  | ptr b off L hb =>
    refine cond_ok (fun hok => ?_) (fun _ => trivial)
    rw [forceN_eq]
    unfold okField at hok
    cases hf : fieldOf P s f with
    | none => simp [hf] at hok
    | some fd =>
      obtain ⟨fs, hu, hfs⟩ := fieldOf_some hf
      simp only [hf] at hok
      have hne : szOf P fd.type ≠ 0 := by
        intro e; rw [e] at hok; simp at hok
      cases hi : P.info? fd.type with
      | none => simp [szOf, hi] at hne
      | some i =>
        rw [szOf_eq hi] at hne
        have ho : offOf P s f = fd.offset := by simp [offOf, hf]
        refine here hs (Rel.ptr b (off + offOf P s f) L hb) ?_
        have ha : (⟨L.B, L.base + off, none⟩ : Addr).add fd.offset = ⟨L.B, L.base + (off + fd.offset), none⟩ := by
          unfold Addr.add; split <;> simp_all [Nat.add_assoc]
        simp [Instr.fieldAt, run_underlying' hu, hfs, Instr.sureAddr, fieldPlace, run_sizeOf hi, hne, ha, ho]
  | _ => exact trivial
theorem part_ok {t off : Nat} {cs : List AV} {Cs : List Value} (hr : RelL ρ cs Cs) {v : AV} (hv : partT P t off cs = some v) : ∃ V, Rel ρ v V ∧ (part t Cs.toArray off).run P w = .ok V w := by
  unfold partT at hv
  cases hk : known P t with
  | false => rw [hk] at hv; cases hv
  | true =>
    rw [hk] at hv
    simp only [cond_true, partOf] at hv
    obtain ⟨i, hi⟩ := info_of_known hk
    cases ha : isAggT P t with
    | true =>
      rw [ha] at hv
      simp only [cond_true, len_eq, take_eq, drop_eq] at hv
      cases hle : Nat.ble (off + szOf P t) cs.length with
      | false => rw [hle] at hv; cases hv
      | true =>
        rw [hle] at hv
        simp only [cond_true, Option.some.injEq] at hv
        subst hv
        have hl := hr.length
        have hle' := Nat.le_of_ble_eq_true hle
        rw [szOf_eq hi] at hle' ⊢
        refine ⟨.agg ((Cs.drop off).take i.size).toArray, .agg _ _ ((hr.drop off).take _), ?_⟩
        simp only [part, Sem.run_bind, run_isAgg hk, ha, Result.andThen_ok, if_true, run_sizeOf hi, Sem.run_pure]
        congr 2
        apply Array.ext_getElem?
        intro j
        simp [List.getElem?_take, List.getElem?_drop]
    | false =>
      rw [ha] at hv
      simp only [cond_false, hd_eq, drop_eq, List.head?_drop] at hv
      obtain ⟨V, hV, r⟩ := hr.get? off hv
      refine ⟨V, r, ?_⟩
      simp [part, run_isAgg hk, ha, hV]
theorem xField_ok (hs : Sim w0 ρ h w) {s f : Nat} {v : AV} {V : Value} (hv : Rel ρ v V) : ValOk P w0 ρ h w (Instr.field s V f) (xField P s f v h) := by
  cases hv with
  | agg a A ha =>
    show ValOk P w0 ρ h w _ (match fieldOf P s f with | some fd => okv (partT P fd.type fd.offset a) h "field" | none => .bad "field")
    cases hf : fieldOf P s f with
    | none => exact trivial
    | some fd =>
      obtain ⟨fs, hu, hfs⟩ := fieldOf_some hf
      refine okv_ok fun x hx => ?_
      obtain ⟨X, hr, hrun⟩ := part_ok (P := P) (w := w) ha hx
      exact here hs hr (by simp [Instr.field, run_underlying' hu, hfs, asAgg, hrun])
  | _ => exact trivial
end
end Go.VM
namespace Go.VM
theorem strBytes_get : ∀ (n c i : Nat), i < n → (strBytes n c)[i]? = some (UInt8.ofNat (c / 256 ^ i))
  | 0, _, _, h => by omega
  | n + 1, c, 0, _ => by simp [strBytes]
  | n + 1, c, i + 1, h => by
    simp only [strBytes, List.getElem?_cons_succ]
    rw [strBytes_get n (c / 256) i (by omega), Nat.div_div_eq_div_mul, Nat.pow_succ, Nat.mul_comm]
theorem shift_byte (c i : Nat) : Nat.mod (Nat.shiftRight c (8 * i)) 256 = c / 256 ^ i % 256 := by
  show (c >>> (8 * i)) % 256 = _
  rw [Nat.shiftRight_eq_div_pow, Nat.pow_mul]
section
variable {P : Program} {w0 : World} {ρ : Rho} {h : Heap} {w : World}
theorem pos_info {e : Nat} (hp : posT P e = true) : ∃ i, P.info? e = some i := by
  cases hi : P.info? e with
  | none => simp [posT, szOf, hi] at hp
  | some i => exact ⟨i, rfl⟩
theorem addr_add (B base off n : Nat) : (⟨B, base + off, none⟩ : Addr).add n = ⟨B, base + (off + n), none⟩ := by
  unfold Addr.add; split <;> simp_all [Nat.add_assoc]
theorem blt_lt {a b : Nat} (h : Nat.blt a b = true) : a < b := by simpa [Nat.blt_eq] using h
theorem xIndexAddr_ok (hs : Sim w0 ρ h w) {t : Nat} {v i : AV} {V I : Value} (hv : Rel ρ v V) (hi : Rel ρ i I) : ValOk P w0 ρ h w (Instr.indexAt t V I) (xIndexAddr P t v i h) := by
  cases hi with
  | int k n =>
    cases n with
    | negSucc n => exact trivial
    | ofNat n =>
      have hslice : ∀ (b : Key) (off len : Nat) (cap : ACap) (c : Nat) (L : Loc), ρ b = some L →
          ValOk P w0 ρ h w (Instr.indexAt t (.slice (some ⟨L.B, L.base + off, none⟩) len c) (.int k (Int.ofNat n))) (xIndexAddr P t (.slice b off len cap) (.int k (Int.ofNat n)) h) := by
        intro b off len cap c L hb
        show ValOk P w0 ρ h w _ (cond (Nat.blt n len) (match P.underlying t with | some (.slice e) => cond (posT P e) (forceN (off + n * szOf P e) (fun o => .val (.ptr b o) h)) (.bad "indexAddr") | _ => .bad "indexAddr") (.bad "indexAddr bounds"))
        refine cond_ok (fun hlt => ?_) (fun _ => trivial)
        have hlt' := blt_lt hlt
        cases hu : P.underlying t with
        | none => exact trivial
        | some d =>
          cases d with
          | slice e =>
            refine cond_ok (fun hp => ?_) (fun _ => trivial)
            rw [forceN_eq]
            obtain ⟨i, hi⟩ := pos_info hp
            refine here hs (Rel.ptr b (off + n * szOf P e) L hb) ?_
            have hn : (n : Int) < (len : Int) := by omega
            (simp [Instr.indexAt, asIntOf, run_underlying' hu, run_sizeOf hi, szOf_eq hi, addr_add]; intro hge; omega)
          | _ => exact trivial
      cases hv with
      | ptr b off L hb =>
        show ValOk P w0 ρ h w _ (match P.underlying t with
          | some (.array m e) => cond (and (posT P e) (Nat.blt n m)) (forceN (off + n * szOf P e) (fun o => .val (.ptr b o) h)) (.bad "indexAddr bounds")
          | _ => .bad "indexAddr")
        cases hu : P.underlying t with
        | none => exact trivial
        | some d =>
          cases d with
          | array m e =>
            refine cond_ok (fun hlt => ?_) (fun _ => trivial)
            rw [Bool.and_eq_true] at hlt
            have hlt' := blt_lt hlt.2
            rw [forceN_eq]
            obtain ⟨i, hi⟩ := pos_info hlt.1
            refine here hs (Rel.ptr b (off + n * szOf P e) L hb) ?_
            have hn : (n : Int) < (m : Int) := by omega
            (simp [Instr.indexAt, asIntOf, run_underlying' hu, Instr.sureAddr, run_sizeOf hi, szOf_eq hi, addr_add]; intro hge; omega)
          | _ => exact trivial
      | sliceIs b off len c L hb => exact hslice b off len _ c L hb
      | sliceMore b off len c sz L hb _ _ => exact hslice b off len _ c L hb
      | _ => exact trivial
  | _ => exact trivial
theorem xIndex_ok (hs : Sim w0 ρ h w) {t : Nat} {v i : AV} {V I : Value} (hv : Rel ρ v V) (hi : Rel ρ i I) (ht : ∀ l c, v = .str l c → P.underlying t = some .string) : ValOk P w0 ρ h w (Instr.index t V I) (xIndex P t v i h) := by
  cases hi with
  | int k n =>
    cases n with
    | negSucc n => exact trivial
    | ofNat n =>
      cases hv with
      | str l c hc =>
        have hu := ht l c rfl
        refine cond_ok (fun hlt => ?_) (fun _ => trivial)
        have hlt' := blt_lt hlt
        rw [forceN_eq, shift_byte]
        refine here hs (Rel.int .u8 _) ?_
        have hg := strBytes_get l c n hlt'
        have hb : (strOf l c)[n]? = some (UInt8.ofNat (c / 256 ^ n)) := by
          have hsz : n < (strOf l c).size := by show n < (strBytes l c).length; rw [strBytes_length]; exact hlt'
          rw [getElem?_pos _ n hsz]
          have hlen : n < (strBytes l c).length := by rw [strBytes_length]; exact hlt'
          rw [List.getElem?_eq_getElem hlen] at hg
          exact hg
        simp [Instr.index, asIntOf, run_underlying' hu, hb]
      | agg a A ha =>
        show ValOk P w0 ρ h w _ (match P.underlying t with
          | some (.array m e) => cond (Nat.blt n m) (okv (partT P e (n * szOf P e) a) h "index") (.bad "index bounds")
          | _ => .bad "index")
        cases hu : P.underlying t with
        | none => exact trivial
        | some d =>
          cases d with
          | array m e =>
            refine cond_ok (fun hlt => ?_) (fun _ => trivial)
            have hlt' := blt_lt hlt
            refine okv_ok fun x hx => ?_
            obtain ⟨X, hr, hrun⟩ := part_ok (P := P) (w := w) ha hx
            have hk : known P e = true := by
              unfold partT at hx
              cases hk : known P e with
              | true => rfl
              | false => rw [hk] at hx; cases hx
            obtain ⟨j, hj⟩ := info_of_known hk
            rw [szOf_eq hj] at hrun
            have hn : (n : Int) < (m : Int) := by omega
            exact here hs hr (by simp [Instr.index, asIntOf, run_underlying' hu, run_sizeOf hj, hrun]; intro hge; omega)
          | _ => exact trivial
      | _ => exact trivial
  | _ => exact trivial
end
end Go.VM
namespace Go.VM
section
variable {P : Program} {w0 : World} {ρ : Rho} {h : Heap} {w : World}
theorem semPure_run {α : Type} : ∀ (s : Sem α) (a : α), semPure P s = some a → s.run P w = .ok a w
  | .pure x, a, e => by simp [semPure] at e; subst e; rfl
  | .program k, a, e => by simp only [semPure] at e; exact semPure_run (k P) a e
  | .mark _ k, a, e => by simp only [semPure] at e; exact semPure_run k a e
  | .load _ _ _, _, e => by simp [semPure] at e
  | .store _ _ _ _, _, e => by simp [semPure] at e
  | .new _ _, _, e => by simp [semPure] at e
  | .shape _ _, _, e => by simp [semPure] at e
  | .freeze _ _ _, _, e => by simp [semPure] at e
  | .frozen _ _, _, e => by simp [semPure] at e
  | .getObj _ _, _, e => by simp [semPure] at e
  | .setObj _ _ _, _, e => by simp [semPure] at e
  | .choose _ _, _, e => by simp [semPure] at e
  | .sys _ _, _, e => by simp [semPure] at e
  | .halt _, _, e => by simp [semPure] at e
theorem intV_eq (k : IntKind) (n : Int) : intV k n h = .val (.int k n) h := by simp [intV, forceI_eq]
theorem boolV_eq (b : Bool) : boolV b h = .val (.bool b) h := by cases b <;> rfl
theorem scalV_ok (hs : Sim w0 ρ h w) {s : Sem Value} {why : String} : ValOk P w0 ρ h w s (scalV (semPure P s) h why) := by
  cases e : semPure P s with
  | none => exact trivial
  | some V =>
    have hrun := semPure_run (w := w) s V e
    cases V with
    | int k n => simp only [scalV, intV_eq]; exact here hs (.int k n) hrun
    | bool b => simp only [scalV, boolV_eq]; exact here hs (.bool b) hrun
    | float k b => simp only [scalV, forceN_eq]; exact here hs (.float k b) hrun
    | _ => exact trivial
theorem intEq_iff (a b : Int) : intEq a b = true ↔ a = b := by
  cases a with
  | ofNat a => cases b with
    | ofNat b => simp only [intEq, Nat.beq_eq]; constructor <;> intro h <;> first | (rw [h]) | (exact Int.ofNat.inj h)
    | negSucc b => simp [intEq]
  | negSucc a => cases b with
    | ofNat b => simp [intEq]
    | negSucc b => simp only [intEq, Nat.beq_eq]; constructor <;> intro h <;> first | (rw [h]) | (exact Int.negSucc.inj h)
theorem intEq_eq (a b : Int) : intEq a b = (a == b) := by
  rw [Bool.eq_iff_iff, intEq_iff]; simp
theorem intLt_iff (a b : Int) : intLt a b = true ↔ a < b := by
  cases a with
  | ofNat a => cases b with
    | ofNat b => simp only [intLt, Nat.blt_eq, Int.ofNat_eq_natCast]; omega
    | negSucc b => simp only [intLt, Int.ofNat_eq_natCast]; constructor <;> intro h <;> first | cases h | omega
  | negSucc a => cases b with
    | ofNat b => exact ⟨fun _ => Int.lt_of_lt_of_le (Int.negSucc_lt_zero a) (Int.natCast_nonneg b), fun _ => rfl⟩
    | negSucc b => simp only [intLt, Nat.blt_eq]; omega
theorem intLt_eq (a b : Int) : intLt a b = decide (a < b) := by
  rw [Bool.eq_iff_iff, intLt_iff]; simp
end
end Go.VM
namespace Go.VM
section
variable {P : Program} {w0 : World} {ρ : Rho} {h : Heap} {w : World}
theorem kindNo_inj {a b : IntKind} (e : Nat.beq (kindNo a) (kindNo b) = true) : a = b := by
  cases a <;> cases b <;> first | rfl | (simp [kindNo] at e)
theorem wrap_i64 {n : Int} (hn : inI64 n = true) : IntKind.i64.wrap n = n := by
  have hb : -9223372036854775808 ≤ n ∧ n ≤ 9223372036854775807 := by
    cases n with
    | ofNat a => simp only [inI64, Nat.blt_eq] at hn; simp only [Int.ofNat_eq_natCast]; omega
    | negSucc a => simp only [inI64, Nat.blt_eq] at hn; omega
  exact IntWalk.i64_in n (by omega)
theorem eqGuard_int (op : BinOp) (t : TypeId) (x y : Operand) (k k' : IntKind) (a b : Int) : (eqGuard op t x y (.int k a) (.int k' b)).run P w = .ok () w := by
  unfold eqGuard; cases op <;> simp
theorem binInt_ok (hs : Sim w0 ρ h w) {op : BinOp} {t : Nat} {k k' : IntKind} {a b : Int} : ValOk P w0 ρ h w (binOp op t (.int k a) (.int k' b)) (binInt P op t k a k' b h) := by
  have hS : ValOk P w0 ρ h w (binOp op t (.int k a) (.int k' b)) (binIntS P op t k a k' b h) := scalV_ok hs
  unfold binInt
  refine cond_ok (fun hk => ?_) (fun _ => hS)
  have hkk := kindNo_inj hk
  subst hkk
  have hA : ∀ r, (op = .add ∧ r = a + b ∨ op = .sub ∧ r = a - b) → ValOk P w0 ρ h w (binOp op t (.int k a) (.int k b)) (arI64 P op t k a k b h r) := by
    intro r hr
    cases k <;> first | exact hS | skip
    refine cond_ok (fun hin => ?_) (fun _ => hS)
    rw [intV_eq]
    have hw := wrap_i64 hin
    rcases hr with ⟨rfl, rfl⟩ | ⟨rfl, rfl⟩
    · exact here hs (.int .i64 _) (by simp [binOp, Op.intArith, hw])
    · exact here hs (.int .i64 _) (by simp [binOp, Op.intArith, hw])
  cases op <;> first
    | exact hA _ (.inl ⟨rfl, rfl⟩)
    | exact hA _ (.inr ⟨rfl, rfl⟩)
    | exact hS
    | (show ValOk P w0 ρ h w _ (boolV _ h); rw [boolV_eq]; exact here hs (.bool _) (by simp [binOp, Op.intCmp, intEq_eq, intLt_eq]; try (first | rfl | (rw [Bool.eq_iff_iff]; simp) | omega)))
end
end Go.VM
namespace Go.VM
theorem strBytes_append : ∀ (l : Nat) (m c d : Nat), c < 256 ^ l → strBytes (l + m) (c + 256 ^ l * d) = strBytes l c ++ strBytes m d
  | 0, m, c, d, h => by
    have : c = 0 := by simpa using h
    subst this; simp [strBytes]
  | l + 1, m, c, d, h => by
    have e1 : l + 1 + m = (l + m) + 1 := by omega
    have hp : 256 ^ (l + 1) * d = 256 * (256 ^ l * d) := by rw [Nat.pow_succ]; simp [Nat.mul_comm, Nat.mul_left_comm]
    have e2 : (c + 256 ^ (l + 1) * d) / 256 = c / 256 + 256 ^ l * d := by rw [hp]; omega
    have e3 : UInt8.ofNat (c + 256 ^ (l + 1) * d) = UInt8.ofNat c := by
      rw [hp]; apply UInt8.toNat_inj.1; simp
    have h' : c / 256 < 256 ^ l := by rw [Nat.pow_succ] at h; omega
    rw [e1]
    simp only [strBytes, e2, e3, List.cons_append, strBytes_append l m (c / 256) d h']
theorem strBytes_inj : ∀ (l c d : Nat), c < 256 ^ l → d < 256 ^ l → strBytes l c = strBytes l d → c = d
  | 0, c, d, hc, hd, _ => by simp at hc hd; omega
  | l + 1, c, d, hc, hd, e => by
    simp only [strBytes, List.cons.injEq] at e
    have h1 : c % 256 = d % 256 := by have := congrArg UInt8.toNat e.1; simpa using this
    have h2 := strBytes_inj l (c / 256) (d / 256) (by rw [Nat.pow_succ] at hc; omega) (by rw [Nat.pow_succ] at hd; omega) e.2
    omega
theorem strBytes_drop : ∀ (k l c : Nat), (strBytes (k + l) c).drop k = strBytes l (c / 256 ^ k)
  | 0, l, c => by simp
  | k + 1, l, c => by
    rw [show k + 1 + l = (k + l) + 1 by omega]
    simp only [strBytes, List.drop_succ_cons, strBytes_drop k l (c / 256), Nat.div_div_eq_div_mul, Nat.pow_succ, Nat.mul_comm]
theorem strBytes_take : ∀ (n l c : Nat), (strBytes (n + l) c).take n = strBytes n (c % 256 ^ n)
  | 0, l, c => by simp [strBytes]
  | n + 1, l, c => by
    rw [show n + 1 + l = (n + l) + 1 by omega]
    have e1 : UInt8.ofNat (c % 256 ^ (n + 1)) = UInt8.ofNat c := by
      apply UInt8.toNat_inj.1; simp [Nat.pow_succ, Nat.mod_mul_left_mod]
    have e2 : c % 256 ^ (n + 1) / 256 = c / 256 % 256 ^ n := by rw [Nat.pow_succ, Nat.mul_comm, Nat.mod_mul_right_div_self]
    simp only [strBytes, List.take_succ_cons, strBytes_take n l (c / 256), e1, e2]
end Go.VM
namespace Go.VM
theorem strOf_toList (l c : Nat) : (strOf l c).toList = strBytes l c := by rw [ByteArray.toList_eq]; rfl
theorem strOf_size (l c : Nat) : (strOf l c).size = l := by show (strBytes l c).length = l; exact strBytes_length l c
theorem strOf_append {l m c d : Nat} (h : c < 256 ^ l) : strOf l c ++ strOf m d = strOf (l + m) (c + 256 ^ l * d) := by
  apply ByteArray.ext
  apply Array.ext'
  simp [strOf, strBytes_append l m c d h]
theorem add_lt {l m c d : Nat} (hc : c < 256 ^ l) (hd : d < 256 ^ m) : c + 256 ^ l * d < 256 ^ (l + m) := by
  rw [Nat.pow_add]
  have : 256 ^ l * (d + 1) ≤ 256 ^ l * 256 ^ m := Nat.mul_le_mul_left _ hd
  rw [Nat.mul_add] at this
  omega
theorem shl_eq (d l : Nat) : Nat.shiftLeft d (8 * l) = 256 ^ l * d := by
  show d <<< (8 * l) = _
  rw [Nat.shiftLeft_eq, Nat.pow_mul, Nat.mul_comm]
theorem str_eq_iff {l m c d : Nat} (hc : c < 256 ^ l) (hd : d < 256 ^ m) : cond (Nat.beq l m) (Nat.beq c d) false = (strBytes l c == strBytes m d) := by
  rw [Bool.eq_iff_iff]
  cases hl : Nat.beq l m with
  | true =>
    have := Nat.eq_of_beq_eq_true hl
    subst this
    simp only [cond_true, Nat.beq_eq, beq_iff_eq]
    exact ⟨fun e => by rw [e], fun e => strBytes_inj l c d hc hd e⟩
  | false =>
    simp only [cond_false, Bool.false_eq_true, beq_iff_eq, false_iff]
    intro e
    have := congrArg List.length e
    rw [strBytes_length, strBytes_length] at this
    subst this
    simp at hl
end Go.VM
namespace Go.VM
theorem beq_succ (m : Nat) : Nat.beq (m + 1) 0 = false := rfl
theorem blt_self (m : Nat) : Nat.blt m m = false := by rw [Bool.eq_false_iff]; simp [Nat.blt_eq]
theorem strLess_eq : ∀ (n l c m d : Nat), l + m < n → strLess n l c m d = Op.bytesLess (strBytes l c) (strBytes m d)
  | 0, _, _, _, _, h => by omega
  | n + 1, l, c, m, d, h => by
    cases m with
    | zero => cases l <;> simp [strLess, strBytes, Op.bytesLess]
    | succ m =>
      cases l with
      | zero => simp [strLess, strBytes, Op.bytesLess, beq_succ]
      | succ l =>
        have ih := strLess_eq n l (c / 256) m (d / 256) (by omega)
        simp only [strLess, strBytes, Op.bytesLess, Nat.add_sub_cancel]
        rw [ih]
        have e1 : (UInt8.ofNat c < UInt8.ofNat d) ↔ c % 256 < d % 256 := by rw [UInt8.lt_iff_toNat_lt]; simp
        have e2 : (UInt8.ofNat c = UInt8.ofNat d) ↔ c % 256 = d % 256 := by rw [← UInt8.toNat_inj]; simp
        have b1 : decide (UInt8.ofNat c < UInt8.ofNat d) = Nat.blt (c % 256) (d % 256) := by rw [Bool.eq_iff_iff]; simp [e1, Nat.blt_eq]
        rcases Nat.lt_trichotomy (c % 256) (d % 256) with hlt | heq | hgt
        · have x1 : Nat.blt (c % 256) (d % 256) = true := by simpa [Nat.blt_eq] using hlt
          simp [x1, b1, beq_succ]
        · have x1 : Nat.blt (c % 256) (d % 256) = false := by rw [heq]; exact blt_self _
          have x2 : Nat.blt (d % 256) (c % 256) = false := by rw [heq]; exact blt_self _
          simp [x1, x2, e2.2 heq, beq_succ]
        · have x1 : Nat.blt (c % 256) (d % 256) = false := by rw [Bool.eq_false_iff]; simp [Nat.blt_eq]; omega
          have x2 : Nat.blt (d % 256) (c % 256) = true := by simpa [Nat.blt_eq] using hgt
          have x3 : (UInt8.ofNat c == UInt8.ofNat d) = false := by rw [beq_eq_false_iff_ne]; intro e; have := e2.1 e; omega
          simp [x1, x2, b1, x3, beq_succ]
end Go.VM
namespace Go.VM
theorem sem_bind_pure {α : Type} : ∀ s : Sem α, s.bind Sem.pure = s := by
  intro s
  induction s with
  | pure a => rfl
  | load m a k ih => simp only [Sem.bind]; congr; funext v; exact ih v
  | store m a v k ih => simp only [Sem.bind, ih]
  | new o k ih => simp only [Sem.bind]; congr; funext v; exact ih v
  | shape o k ih => simp only [Sem.bind]; congr; funext v; exact ih v
  | freeze a n k ih => simp only [Sem.bind, ih]
  | frozen a k ih => simp only [Sem.bind]; congr; funext v; exact ih v
  | getObj a k ih => simp only [Sem.bind]; congr; funext v; exact ih v
  | setObj r o k ih => simp only [Sem.bind, ih]
  | choose a k ih => simp only [Sem.bind]; congr; funext v; exact ih v
  | sys a k ih => simp only [Sem.bind]; congr; funext v; exact ih v
  | program k ih => simp only [Sem.bind]; congr; funext v; exact ih v
  | mark m k ih => simp only [Sem.bind, ih]
  | halt h => rfl
theorem sem_bind_assoc {α β γ : Type} (f : α → Sem β) (g : β → Sem γ) : ∀ s : Sem α, (s.bind f).bind g = s.bind (fun x => (f x).bind g) := by
  intro s
  induction s with
  | pure a => rfl
  | load m a k ih => simp only [Sem.bind]; congr; funext v; exact ih v
  | store m a v k ih => simp only [Sem.bind, ih]
  | new o k ih => simp only [Sem.bind]; congr; funext v; exact ih v
  | shape o k ih => simp only [Sem.bind]; congr; funext v; exact ih v
  | freeze a n k ih => simp only [Sem.bind, ih]
  | frozen a k ih => simp only [Sem.bind]; congr; funext v; exact ih v
  | getObj a k ih => simp only [Sem.bind]; congr; funext v; exact ih v
  | setObj r o k ih => simp only [Sem.bind, ih]
  | choose a k ih => simp only [Sem.bind]; congr; funext v; exact ih v
  | sys a k ih => simp only [Sem.bind]; congr; funext v; exact ih v
  | program k ih => simp only [Sem.bind]; congr; funext v; exact ih v
  | mark m k ih => simp only [Sem.bind, ih]
  | halt h => rfl
instance : LawfulMonad Sem := LawfulMonad.mk' Sem
  (id_map := fun s => sem_bind_pure s)
  (pure_bind := fun _ _ => rfl)
  (bind_assoc := fun s f g => sem_bind_assoc f g s)
/-- every field's type is one of the program's -/
structure TypesOk (P : Program) : Prop where
theorem fieldsKnown_spec {P : Program} : ∀ {fs : List Field}, fieldsKnown P fs = true → ∀ f ∈ fs, ∃ i, P.info? f.type = some i
  | [], _, f, hf => by cases hf
  | g :: r, h, f, hf => by
    unfold fieldsKnown at h
    cases hi : P.info? g.type with
    | none => simp [hi] at h
    | some i =>
      simp only [hi, Option.isSome_some, cond_true] at h
      cases hf with
      | head => exact ⟨i, hi⟩
      | tail _ hf => exact fieldsKnown_spec h f hf
section
variable {P : Program} {w0 : World} {ρ : Rho} {h : Heap} {w : World}
theorem run_places (fs : Array Field) (hk : ∀ f ∈ fs.toList, ∃ i, P.info? f.type = some i) :
    (fs.mapM (fun f => do pure (f.offset, ← sizeOf f.type)) : Sem (Array (Nat × Nat))).run P w = .ok (fs.toList.map fun f => (f.offset, szOf P f.type)).toArray w := by
  rw [Array.mapM_eq_mapM_toList]
  simp only [map_eq_pure_bind, Sem.run_bind, mapM_places fs.toList hk, Result.andThen_ok, Sem.run_pure]
theorem xBuild_ok (_hP : TypesOk P) (hs : Sim w0 ρ h w) {t : Nat} {ps : List (Nat × AV)} {Ps : List (Nat × Value)} (hp : PartsRel ρ ps Ps) :
    ValOk P w0 ρ h w (Instr.build t Ps.toArray) (xBuild P t ps h) := by
  unfold xBuild
  cases hz : zeroOf P t with
  | none => exact trivial
  | some z =>
    obtain ⟨Z, hrun, ho⟩ := zeroOf_some (w := w) hz
    have hr := cells_rel (ofVal_rel ρ Z z ho) (sure_ofVal ho)
    dsimp only
    cases hu : P.underlying t with
    | none => exact trivial
    | some d =>
      cases d with
      | struct fs =>
        refine cond_ok (fun hfk => ?_) (fun _ => trivial)
        refine okv_ok fun v hv => ?_
        simp only [Option.map_eq_some_iff] at hv
        obtain ⟨r, hf, rfl⟩ := hv
        obtain ⟨R, hR, hRr⟩ := fill_ok hp.1 hp.2 hr hf
        refine here hs (.agg r R.toList hRr) ?_
        have hpl : (fun i => ((fs.toList.map fun f => (f.offset, szOf P f.type)).toArray)[i]?) = (fun i => (hd (drop i fs.toList)).map fun f => (f.offset, szOf P f.type)) := by
          funext i
          simp [hd_eq, drop_eq, List.head?_drop]
        simp only [Instr.build, Sem.run_bind, hrun, Result.andThen_ok, run_underlying' hu, run_places fs (fieldsKnown_spec hfk)]
        rw [hpl]
        have : (Z.cells.toList.toArray) = Z.cells := by simp
        rw [this] at hR
        rw [hR]
        rfl
      | array n e =>
        refine cond_ok (fun hek => ?_) (fun _ => trivial)
        refine okv_ok fun v hv => ?_
        simp only [Option.map_eq_some_iff] at hv
        obtain ⟨r, hf, rfl⟩ := hv
        obtain ⟨R, hR, hRr⟩ := fill_ok hp.1 hp.2 hr hf
        obtain ⟨i, hi⟩ := Option.isSome_iff_exists.1 hek
        rw [szOf_eq hi] at hR
        refine here hs (.agg r R.toList hRr) ?_
        simp only [Instr.build, Sem.run_bind, hrun, Result.andThen_ok, run_underlying' hu, run_sizeOf hi]
        rw [show Z.cells.toList.toArray = Z.cells by simp] at hR
        rw [hR]
        rfl
      | _ => exact trivial
theorem rep_length (zs : List AV) : ∀ n, (rep n zs).length = n * zs.length
  | 0 => by simp [rep]
  | n + 1 => by simp [rep, cat_eq, rep_length zs n, Nat.succ_mul, Nat.add_comm]
/-- a row's zero cells: the model's 'by the remainder' is the repetition -/
theorem range_zero (Z : Array Value) : ∀ n, ((Array.range (n * Z.size)).map (Z[· % Z.size]!)) = (List.replicate n Z.toList).flatten.toArray := by
  intro n
  by_cases hz : Z.size = 0
  · have : Z = #[] := by simpa using hz
    subst this; simp
  apply Array.ext_getElem?
  intro j
  induction n generalizing j with
  | zero => simp
  | succ n ih =>
    rw [List.replicate_succ, List.flatten_cons]
    by_cases hj : j < Z.size
    · have h1 : j < (n + 1) * Z.size := by rw [Nat.succ_mul]; omega
      (simp [h1, Nat.mod_eq_of_lt hj, hj]; rw [List.getElem?_append_left (by simpa using hj)]; simp [hj])
    · have h2 := ih (j - Z.size)
      have hm : j % Z.size = (j - Z.size) % Z.size := Nat.mod_eq_sub_mod (by omega)
      simp only [List.getElem?_toArray, Array.getElem?_map] at h2 ⊢
      rw [List.getElem?_append_right (by simp; omega)]
      simp only [Array.length_toList]
      rw [← h2]
      by_cases hb : j < (n + 1) * Z.size
      · have h3 : j - Z.size < n * Z.size := by rw [Nat.succ_mul] at hb; omega
        simp [hb, h3, hm]
      · have h3 : ¬ j - Z.size < n * Z.size := by rw [Nat.succ_mul] at hb; omega
        simp [hb, h3]
theorem rep_rel {zs : List AV} {Zs : List Value} (hr : RelL ρ zs Zs) : ∀ n, RelL ρ (rep n zs) (List.replicate n Zs).flatten
  | 0 => by simpa [rep] using RelL.nil
  | n + 1 => by rw [rep, cat_eq, List.replicate_succ, List.flatten_cons]; exact hr.append (rep_rel hr n)
theorem row_cells {e : Nat} {i : TypeInfo} {z : AV} (hz : zeroOf P e = some z) (hi : P.info? e = some i) (hl : len z.cells = szOf P e) (n : Nat) :
    ∃ Cs : List Value, RelL ρ (rep n z.cells) Cs ∧ ((n * i.size = 0 ∧ (Array.range (n * i.size)).map ((#[] : Array Value)[· % (#[] : Array Value).size]!) = Cs.toArray) ∨
      (n * i.size ≠ 0 ∧ ∃ Z : Value, (zeroValue e).run P w = .ok Z w ∧ (Array.range (n * i.size)).map (Z.cells[· % Z.cells.size]!) = Cs.toArray)) := by
  obtain ⟨Z, hrun, ho⟩ := zeroOf_some (w := w) hz
  have hr := cells_rel (ofVal_rel ρ Z z ho) (sure_ofVal ho)
  have e1 : Z.cells.size = i.size := by have := hr.length; rw [len_eq, szOf_eq hi] at hl; simp at this; omega
  refine ⟨_, rep_rel hr n, ?_⟩
  by_cases h0 : n * i.size = 0
  · refine .inl ⟨h0, ?_⟩
    rw [h0]
    have : (List.replicate n Z.cells.toList).flatten = [] := by
      apply List.eq_nil_of_length_eq_zero
      simp [e1, h0]
    rw [this]; simp
  · refine .inr ⟨h0, Z, hrun, ?_⟩
    rw [← e1]; exact range_zero Z.cells n
theorem xBuildSlice_ok (hs : Sim w0 ρ h w) {t n : Nat} {ps : List (Nat × AV)} {Ps : List (Nat × Value)} (hp : PartsRel ρ ps Ps) :
    ValOk P w0 ρ h w (Instr.buildSlice t n Ps.toArray) (xBuildSlice P t n ps h) := by
  unfold xBuildSlice
  cases hu : P.underlying t with
  | none => exact trivial
  | some d =>
    cases d with
    | slice e =>
      dsimp only
      cases hz : zeroOf P e with
      | none => exact trivial
      | some z =>
        dsimp only
        refine cond_ok (fun hc => ?_) (fun _ => trivial)
        rw [Bool.and_eq_true] at hc
        have hl := Nat.eq_of_beq_eq_true hc.1
        have hle := Nat.le_of_ble_eq_true hc.2
        have hi : ∃ i, P.info? e = some i := by
          unfold zeroOf at hz
          cases hi : P.info? e with
          | none => simp [hi] at hz
          | some i => exact ⟨i, rfl⟩
        obtain ⟨i, hi⟩ := hi
        obtain ⟨Cs, hr, hzc⟩ := row_cells (ρ := ρ) (w := w) hz hi hl n
        rw [szOf_eq hi] at hle ⊢
        cases hf : fillA (fun j => some (j * i.size, i.size)) (rep n z.cells) ps with
        | none => exact trivial
        | some cs =>
          obtain ⟨R, hR, hRr⟩ := fill_ok hp.1 hp.2 hr hf
          refine newCells_ok hs hRr (V := .slice (some ⟨w.heap.size, 0, none⟩) n n) ?_ (fun b => ?_)
          · have hn : ¬ n * i.size > 2 ^ 24 := by omega
            simp only [Instr.buildSlice, Sem.run_bind, run_underlying' hu, Result.andThen_ok, run_sizeOf hi, if_neg hn]
            rcases hzc with ⟨h0, hc0⟩ | ⟨h0, Z, hZ, hc0⟩
            · simp only [if_pos h0, Sem.run_bind, Sem.run_pure, Result.andThen_ok]
              simp only [hc0, hR]
              simp [newRow]
            · simp only [if_neg h0, Sem.run_bind, Sem.run_pure, Result.andThen_ok, hZ]
              simp only [hc0, hR]
              simp [newRow]
          · exact Rel.sliceIs b 0 n n ⟨w.heap.size, 0, _⟩ (Rho.add_same _ _ _)
    | _ => exact trivial
end
end Go.VM
