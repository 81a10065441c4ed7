/- CompileTrees: a part of the proof (B0 B1 B2 B3 B4 B5 B6 B7 B8 B9). No conditions. -/
import Derived.Test.YtfkgfibmhhlemaaQA
import Derived.Maps.Own
import Derived.Maps.OwnSet
import Derived.Maps.OwnOps
namespace Go.Proofs.Ytfkgfibmhhlemaa
open Go.RowKit Go.Maps Go.WideMaps
theorem wpList_insert_own {H : Type} {P : Program} (w : World) {ops : Array Oper} {rest : List Oper} {o : Oper} {a : Act} {Q : Exit → Act → World → Prop}
    (hg : o.guard = none) (m x v : Operand) (t : TypeId) (hop : o.op = Op.insert t m x v)
    (k e : TypeId) (K : Keyed P k) (ht : P.underlying t = some (.map k e)) (R : Value → Option (DataW H × List MemPlace)) (b n : Nat) (D : DataW H)
    (hm : a.eval m = .map (some b)) (hown : w.ownsMap P k R b n D) (hn : n < maxLen) (key val : Value) (kl : Lit) (hx : a.eval x = key) (hv : a.eval v = val) (hkey : keyOf P k key = some kl)
    (d : DataW H) (ps : List MemPlace) (hval : R val = some (d, ps))
    (hK : ∀ w', w'.ownsMap P k R b (n + 1) (D.put kl d) → w.grownBy w' (some b) → wpList P ops Q rest (a.put o.dst undef) w') :
    wpList P ops Q (o :: rest) a w := by
  refine wpList_plain hg fun K' hK' => ?_
  obtain ⟨w', hrun, r1, r2⟩ := hown.update K ht hn hkey hval
  unfold Oper.wp
  simp [execOp, hop, hm, hx, hv, hrun, Result.andThen]
  exact hK' _ _ (hK w' r1 r2)
theorem law9 : Keyed Try.prog 9 := string_keyed Try.underlying9
noncomputable abbrev RI : Value → Option (DataW Unit × List MemPlace) := plainElem Try.prog 3
theorem RI_int {a : Int} (h : (Lit.int .i64 a).wf = true) : RI (.int .i64 a) = some (.lit (.int .i64 a), []) := plainElem_int Try.underlying3 h
theorem key9 (s : ByteArray) (h : s.size ≤ maxLen) : keyOf Try.prog 9 (.string s) = some (.string s.data.toList) := keyOf_string_mk Try.underlying9 h
/-- chapter 20's functions, and how many arguments they take -/
def fnL : List (List UInt8 × Int) := [([114, 101, 97, 100], 3), ([108, 105, 115, 116], 1), ([115, 116, 97, 116], 1), ([114, 101, 97, 100, 108, 105, 110, 107], 1), ([99, 114, 101, 97, 116, 101], 2), ([109, 107, 100, 105, 114], 2), ([115, 121, 109, 108, 105, 110, 107], 2), ([119, 114, 105, 116, 101], 3), ([116, 114, 117, 110, 99, 97, 116, 101], 2), ([99, 104, 109, 111, 100], 2), ([114, 101, 109, 111, 118, 101], 1), ([114, 109, 100, 105, 114], 1), ([114, 101, 110, 97, 109, 101], 2), ([111, 112, 101, 110], 1), ([114, 101, 97, 100, 102, 100], 3), ([119, 114, 105, 116, 101, 102, 100], 3), ([99, 108, 111, 115, 101], 1), ([99, 104, 100, 105, 114], 1), ([110, 117, 109], 1), ([116, 101, 120, 116], 1), ([108, 101, 110], 1), ([119, 104, 111, 108, 101], 1)]
noncomputable def fnD : DataW Unit := fnL.foldl (fun D p => D.put (.string p.1) (.lit (.int .i64 p.2))) (.map [])
theorem kp_step {w wx w1 : World} (h : Kp (fun _ => False) w wx) (hg : wx.grownBy w1 (some w.heap.size)) : Kp (fun _ => False) w w1 :=
  ⟨hg.os.trans h.os, hg.tape.trans h.tape, hg.output.trans h.output, Nat.le_trans h.size hg.size, fun k hk _ => (hg.block k (Nat.lt_of_lt_of_le hk h.size) (fun e => by injection e with e; omega)).trans (h.block k hk (fun e => e))⟩
theorem kp_alloc (w : World) (o : Obj) : Kp (fun _ => False) w (w.alloc o) := ⟨rfl, rfl, rfl, by simp, fun k hk _ => heap_alloc_old w o hk⟩
def FnPost (w : World) (e : Ending) (w' : World) : Prop := e = .returned (.map (some w.heap.size)) ∧ w'.ownsMap Try.prog 9 RI w.heap.size 22 fnD ∧ Kp (fun _ => False) w w'
set_option maxRecDepth 100000 in
set_option maxHeartbeats 800000 in
theorem functions_any (w : World) : Calls Try.prog 59 #[] w (FnPost w) := by
  have hmm := @run_makeMap Try.prog
  have hown0 := World.ownsMap_made w Try.prog 9 RI
  have hk0 := kp_alloc w (.map #[] 0)
  go_enter Try.func59, Try.ntmps59
  go_wp2_with (refine wpList_insert_own _ rfl (.tmp 1) _ _ 49 rfl 9 3 law9 Try.underlying49 RI w.heap.size _ _ rfl (by assumption) (by decide) _ _ _ rfl rfl (key9 _ (by decide)) _ _ (RI_int (by decide)) ?_; intro w1 hown1 hgrow1; have hk1 := kp_step (by assumption) hgrow1; clear hgrow1)
  go_ret
  exact ⟨rfl, by assumption, by assumption⟩
end Go.Proofs.Ytfkgfibmhhlemaa
namespace Go.Proofs.Ytfkgfibmhhlemaa
open Go.RowKit Go.Maps Go.WideMaps
/-- what a map from texts to numbers tells at a text -/
structure At (D : DataW Unit) (s : List UInt8) (o : Option Int) : Prop where
  isMap : IsMap D
  atKey : ∀ z, D.atKey (.string s) z = match o with | some k => .lit (.int .i64 k) | none => z
  has : Maps.has D (.string s) = o.isSome
theorem At.put {D : DataW Unit} {s : List UInt8} {o : Option Int} (h : At D s o) (t : List UInt8) (k : Int) : At (D.put (.string t) (.lit (.int .i64 k))) s (bif t == s then some k else o) := by
  by_cases e : t = s
  · subst e
    simp only [beq_self_eq_true, cond_true]
    exact ⟨IsMap.put h.isMap _ _, fun z => atKey_put_same h.isMap (by trivial) _ _, has_put_same h.isMap (by trivial) _⟩
  · have hb : (t == s) = false := by simpa using e
    have hne : (Lit.string s) ≠ .string t := fun x => e (by injection x with x; exact x.symm)
    rw [hb, cond_false]
    exact ⟨IsMap.put h.isMap _ _, fun z => (atKey_put_other hne _ _).trans (h.atKey z), (has_put_other hne _).trans h.has⟩
theorem At.fold {s : List UInt8} : ∀ (l : List (List UInt8 × Int)) {D : DataW Unit} {o : Option Int}, At D s o → At (l.foldl (fun D p => D.put (.string p.1) (.lit (.int .i64 p.2))) D) s (l.foldl (fun o p => bif p.1 == s then some p.2 else o) o)
  | [], _, _, h => h
  | p :: r, _, _, h => At.fold r (h.put p.1 p.2)
/-- how many arguments a function takes -/
def fnOf (s : List UInt8) : Option Int := fnL.foldl (fun o p => bif p.1 == s then some p.2 else o) none
theorem fn_at (s : List UInt8) : At fnD s (fnOf s) := At.fold fnL ⟨isMap_empty, fun _ => rfl, rfl⟩
def ArgsPost (s : ByteArray) (w : World) (e : Ending) (w' : World) : Prop := e = .returned (.tuple #[.int .i64 ((fnOf s.toList).getD 0), .bool (fnOf s.toList).isSome]) ∧ Kp (fun _ => False) w w'
theorem zero3 (w : World) : (zeroValue 3).run Try.prog w = .ok (.int .i64 0) w := by kernel_rfl
theorem args_close {s : ByteArray} {w w' : World} {c : Int} (hc : fnD.atKey (.string s.data.toList) (.lit (.int .i64 0)) = .lit (.int .i64 c)) (hk : Kp (fun _ => False) w w') :
    ArgsPost s w (.returned (.tuple #[.int .i64 c, .bool (Maps.has fnD (.string s.data.toList))])) w' := by
  have e : s.toList = s.data.toList := ByteArray.toList_eq s
  have h := fn_at s.data.toList
  refine ⟨?_, hk⟩
  rw [e, h.has]
  rw [h.atKey] at hc
  cases hf : fnOf s.data.toList with
  | none => rw [hf] at hc; injection hc with hc; injection hc with _ hc; rw [← hc]; rfl
  | some k => rw [hf] at hc; injection hc with hc; injection hc with _ hc; rw [← hc]; rfl
set_option maxHeartbeats 400000 in
theorem args_any (s : ByteArray) (hs : s.size ≤ maxLen) (w : World) : Calls Try.prog 50 #[.string s] w (ArgsPost s w) := by
  have hkey := key9 s hs
  go_enter Try.func50, Try.ntmps50
  go_wp2_with (first | (go_at_call 59; refine (functions_any _).mono ?_; rintro e w' ⟨rfl, hown, hk⟩) | (at_lookup; refine wpList_lookup_own_ok_int _ rfl _ _ 49 rfl 9 3 .i64 law9 Try.underlying49 Try.underlying3 (zero3 _) w.heap.size 22 fnD rfl hown _ _ rfl hkey ?_; intro c hat hwc))

  go_ret2
  exact args_close hat hk
end Go.Proofs.Ytfkgfibmhhlemaa
namespace Go.Proofs.Ytfkgfibmhhlemaa
open Go.RowKit
/-! what a tree's code is: plain functions -/
abbrev f0 : Value := .float .f64 0
abbrev noText : ByteArray := ⟨#[]⟩
/-- an instruction's cells -/
abbrev ins (op arg : Int) (num : Value) (text : ByteArray) : List Value := [.int .i64 op, .int .i64 arg, num, .string text]
def Nd.kind : Nd → Int
  | .mk k _ _ _ _ => k
def Nd.kids : Nd → List Nd
  | .mk _ _ _ ks _ => ks
def slotGo (s : List UInt8) : List (List UInt8) → Nat → Option Int
  | [], _ => none
  | t :: r, i => bif t == s then some (i : Int) else slotGo s r (i + 1)
/-- a name's place among those that are set -/
def slotOf (sl : List (List UInt8)) (s : List UInt8) : Option Int := slotGo s sl 0
mutual
/-- an expression's code -/
def exprC (sl : List (List UInt8)) : Nd → Option (List Value)
  | .mk k t x ks _ =>
    if k = 15 then (if ks.length = 0 then some (ins 1 0 (.float .f64 x) noText) else none)
    else if k = 16 then (if ks.length = 0 then some (ins 2 0 f0 t) else none)
    else if k = 14 then (if ks.length = 0 then (slotOf sl t.toList).map fun i => ins 3 i f0 noText else none)
    else if k = 17 then (if t.toList = [45] ∨ t.toList = [33] then (if ks.length = 1 then (exprL sl ks).map (· ++ ins (if t.toList = [33] then 6 else 5) 0 f0 noText) else none) else none)
    else if k = 18 then match signO t with
      | some o => if ks.length = 2 then (exprL sl ks).map (· ++ ins o 0 f0 noText) else none
      | none => none
    else if k = 19 then (if fnOf t.toList = some (ks.length : Int) then (exprL sl ks).map (· ++ ins 17 ks.length f0 t) else none)
    else none
def exprL (sl : List (List UInt8)) : List Nd → Option (List Value)
  | [] => some []
  | n :: r => (exprC sl n).bind fun a => (exprL sl r).map fun b => a ++ b
end
abbrev Out := List Value × List (List UInt8)
def cnt (l : List Value) : Nat := l.length / 4
def setC (sl : List (List UInt8)) (s : List UInt8) : Option (Int × List (List UInt8)) := match slotOf sl s with
  | some i => some (i, sl)
  | none => if sl.length < 64 then some (sl.length, sl ++ [s]) else none
mutual
/-- a statement's code, laid from the instruction at n on, and the names that are set behind it -/
def stmtC (n : Nat) (sl : List (List UInt8)) : Nd → Option Out
  | .mk k t _ ks _ =>
    if k = 9 then (match ks with
      | [a] => (exprC sl a).bind fun e => (setC sl t.toList).map fun p => (e ++ ins 4 p.1 f0 noText, p.2)
      | _ => none)
    else if k = 10 then (match ks with
      | [a, b, c] => (exprC sl a).bind fun e => (blockC (n + cnt e + 1) sl b).bind fun p =>
        if c.kind = 0 then (if c.kids.length = 0 then some (e ++ ins 16 (n + cnt e + 1 + cnt p.1 : Nat) f0 noText ++ p.1, p.2) else none)
        else (blockC (n + cnt e + 1 + cnt p.1 + 1) p.2 c).map fun q => (e ++ ins 16 (n + cnt e + 1 + cnt p.1 + 1 : Nat) f0 noText ++ p.1 ++ ins 15 (n + cnt e + 1 + cnt p.1 + 1 + cnt q.1 : Nat) f0 noText ++ q.1, q.2)
      | _ => none)
    else if k = 11 then (match ks with
      | [a, b] => (exprC sl a).bind fun e => (blockC (n + cnt e + 1) sl b).map fun p => (e ++ ins 16 (n + cnt e + 1 + cnt p.1 + 1 : Nat) f0 noText ++ p.1 ++ ins 15 n f0 noText, p.2)
      | _ => none)
    else if k = 12 then (match ks with
      | [a] => (exprC sl a).map fun e => (e ++ ins 18 0 f0 noText, sl)
      | _ => none)
    else if k = 13 then (match ks with
      | [a] => (exprC sl a).map fun e => (e ++ ins 19 0 f0 noText, sl)
      | _ => none)
    else none
def blockC (n : Nat) (sl : List (List UInt8)) : Nd → Option Out
  | .mk k _ _ ks _ => if k = 8 then stmtL n sl ks else none
def stmtL (n : Nat) (sl : List (List UInt8)) : List Nd → Option Out
  | [] => some ([], sl)
  | a :: r => (stmtC n sl a).bind fun p => (stmtL (n + cnt p.1) p.2 r).map fun q => (p.1 ++ q.1, q.2)
end
/-- a script's code -/
def scriptC (nd : Nd) : Option (List Value) := (blockC 0 [] nd).map fun p => p.1 ++ ins 0 0 f0 noText
end Go.Proofs.Ytfkgfibmhhlemaa
namespace Go.Proofs.Ytfkgfibmhhlemaa
open Go.RowKit
/-- a node behind a pointer -/
structure NodeP (R : Nat → Prop) (w : World) (b o : Nat) (k : Int) (t : ByteArray) (x : Nat) (S : Value) (ks : List Nd) (a : Int) : Prop where
  r : R b
  c0 : w.cell? ⟨b, o, none⟩ = some (.int .i64 k)
  c1 : w.cell? ⟨b, o + 1, none⟩ = some (.string t)
  c2 : w.cell? ⟨b, o + 2, none⟩ = some (.float .f64 x)
  c3 : w.cell? ⟨b, o + 3, none⟩ = some S
  c4 : w.cell? ⟨b, o + 4, none⟩ = some (.int .i64 a)
  len : SlAt ks.length S
  kids : KidsAt R w ks S 0
theorem SlAt.slice {n : Nat} {S : Value} (h : SlAt n S) : ∃ ao cap, S = .slice ao n cap ∧ n ≤ maxLen := by
  rcases h with ⟨h0, ao, cap, rfl, _⟩ | ⟨b, o, cap, rfl, h1, h2⟩
  · exact ⟨ao, cap, by rw [h0], by omega⟩
  · exact ⟨_, _, rfl, by omega⟩
def ExprPost (w : World) (B b : Nat) (v : Value) (n : Nat) (xs : List Value) (o : Option (List Value)) (e : Ending) (w' : World) : Prop := match o with
  | some new => e = .returned (.tuple #[]) ∧ ∃ v', Lays w B b v n xs new (cnt new) v' w'
  | none => e = thrown ∧ Kp (fun k => k = b ∨ v.ownBlock = some k) w w'
theorem kp_refl (S : Nat → Prop) (w : World) : Kp S w w := ⟨rfl, rfl, rfl, Nat.le_refl _, fun _ _ _ => rfl⟩
set_option maxRecDepth 100000 in
set_option maxHeartbeats 400000 in
theorem expr_number (R : Nat → Prop) (B b : Nat) (v : Value) (n : Nat) (xs : List Value) (w : World) (hbs : B ≤ w.heap.size) (hE : Em w B b v n xs) (h63 : n + 1 ≤ maxLen) (hby : (n + 1) * 40 ≤ 140737488355328)
    (nb no : Nat) (t : ByteArray) (x : Nat) (ao : Option Addr) (cap : Nat) (a : Int) (hn : NodeP R w nb no 15 t x (.slice ao 0 cap) [] a) :
    Calls Try.prog 38 #[.pointer (some ⟨b, 0, none⟩), .pointer (some ⟨nb, no, none⟩)] w (PutPost w B b v (n + 1) (xs ++ ins 1 0 (.float .f64 x) noText)) := by
  have hp := put_any B b v n xs 1 0 (.float .f64 x) ⟨#[]⟩ w hbs hE rfl h63 hby
  obtain ⟨_, c0, c1, c2, c3, c4, _, _⟩ := hn
  have hk := kids_ok nb no ao 0 cap w c3
  clear hE
  go_enter Try.func38, Try.ntmps38
  go_wp2_with (first | (go_at_call 39; refine hk.mono ?_; rintro e w' ⟨rfl, rfl⟩) | (go_at_call 19; refine hp.mono ?_; intro e w' hpp; obtain rfl : e = .returned (.tuple #[]) := hpp.1))
  go_end0
  exact hpp
end Go.Proofs.Ytfkgfibmhhlemaa
namespace Go.Proofs.Ytfkgfibmhhlemaa
open Go.RowKit
set_option maxRecDepth 100000 in
set_option maxHeartbeats 400000 in
theorem expr_text (R : Nat → Prop) (B b : Nat) (v : Value) (n : Nat) (xs : List Value) (w : World) (hbs : B ≤ w.heap.size) (hE : Em w B b v n xs) (h63 : n + 1 ≤ maxLen) (hby : (n + 1) * 40 ≤ 140737488355328)
    (nb no : Nat) (t : ByteArray) (x : Nat) (ao : Option Addr) (cap : Nat) (a : Int) (hn : NodeP R w nb no 16 t x (.slice ao 0 cap) [] a) :
    Calls Try.prog 38 #[.pointer (some ⟨b, 0, none⟩), .pointer (some ⟨nb, no, none⟩)] w (PutPost w B b v (n + 1) (xs ++ ins 2 0 f0 t)) := by
  have hp := put_any B b v n xs 2 0 f0 t w hbs hE rfl h63 hby
  obtain ⟨_, c0, c1, c2, c3, c4, _, _⟩ := hn
  have hk := kids_ok nb no ao 0 cap w c3
  clear hE
  go_enter Try.func38, Try.ntmps38
  go_wp2_with (first | (go_at_call 39; refine hk.mono ?_; rintro e w' ⟨rfl, rfl⟩) | (go_at_call 19; refine hp.mono ?_; intro e w' hpp; obtain rfl : e = .returned (.tuple #[]) := hpp.1))
  go_end0
  exact hpp
set_option maxRecDepth 100000 in
set_option maxHeartbeats 400000 in
/-- a leaf that has kids -/
theorem expr_leaf_no (R : Nat → Prop) (b : Nat) (w : World) (nb no : Nat) (k : Int) (hk : k = 14 ∨ k = 15 ∨ k = 16) (t : ByteArray) (x : Nat) (ao : Option Addr) (cap : Nat) (ks : List Nd) (a : Int) (hl : ks.length ≤ maxLen) (h0 : ks.length ≠ 0)
    (hn : NodeP R w nb no k t x (.slice ao ks.length cap) ks a) :
    Calls Try.prog 38 #[.pointer (some ⟨b, 0, none⟩), .pointer (some ⟨nb, no, none⟩)] w fun e w' => e = thrown ∧ w' = w := by
  obtain ⟨_, c0, c1, c2, c3, c4, _, _⟩ := hn
  have hkn := kids_no nb no ao ks.length cap 0 w hl (by omega) h0 c3
  clear hl h0
  rcases hk with rfl | rfl | rfl
  all_goals
    go_enter Try.func38, Try.ntmps38
    go_wp2_with (go_at_call 39; refine hkn.mono ?_; rintro e w' ⟨rfl, rfl⟩)
    exact ⟨rfl, rfl, rfl⟩
end Go.Proofs.Ytfkgfibmhhlemaa
namespace Go.Proofs.Ytfkgfibmhhlemaa
open Go.RowKit Go.Maps Go.WideMaps
theorem lit_inj {a b : Int} (h : (DataW.lit (.int .i64 a) : DataW Unit) = .lit (.int .i64 b)) : a = b := by
  injection h with h; injection h
/-- what a lookup of a name tells -/
theorem look_run {w : World} {mb m : Nat} {D : DataW Unit} {t : ByteArray} {o : Option Int} (hs : t.size ≤ maxLen) (hown : w.ownsMap Try.prog 9 RI mb m D) (hat : At D t.data.toList o) :
    (Instr.lookup 49 (.map (some mb)) (.string t) true).run Try.prog w = .ok (.tuple #[.int .i64 (o.getD 0), .bool o.isSome]) w := by
  obtain ⟨v, ps, h1, h2⟩ := hown.look_ok law9 Try.underlying49 (zero3 w) (RI_int (a := 0) (by decide)) (key9 t hs)
  rw [hat.atKey] at h2
  obtain ⟨c, rfl, hc, _⟩ := plainElem_int_inv Try.underlying3 h2
  rw [h1, hat.has]
  cases o with
  | none =>
    have hc : (DataW.lit (.int .i64 0) : DataW Unit) = .lit (.int .i64 c) := congrArg Prod.fst hc
    rw [← lit_inj hc]; rfl
  | some k =>
    have hc : (DataW.lit (.int .i64 k) : DataW Unit) = .lit (.int .i64 c) := congrArg Prod.fst hc
    rw [← lit_inj hc]; rfl
theorem PutPost.drew {w w' : World} {B b n : Nat} {v : Value} {xs : List Value} {e : Ending} : PutPost w.drew B b v n xs e w' → PutPost w B b v n xs e w'
  | ⟨he, v', hE, hc, hf, hk, hfr⟩ => ⟨he, v', hE, hc, hf, ⟨hk.os, hk.tape, hk.output, hk.size, hk.block⟩, hfr⟩
set_option maxRecDepth 100000 in
set_option maxHeartbeats 400000 in
theorem expr_name (R : Nat → Prop) (B b : Nat) (v : Value) (n : Nat) (xs : List Value) (w : World) (hbs : B ≤ w.heap.size) (hE : Em w B b v n xs) (h63 : n + 1 ≤ maxLen) (hby : (n + 1) * 40 ≤ 140737488355328)
    (mb m : Nat) (D : DataW Unit) (i : Int) (hm1 : w.cell? ⟨b, 1, none⟩ = some (.map (some mb))) (hown : w.ownsMap Try.prog 9 RI mb m D)
    (nb no : Nat) (t : ByteArray) (ht : t.size ≤ maxLen) (hat : At D t.data.toList (some i)) (x : Nat) (ao : Option Addr) (cap : Nat) (a : Int) (hn : NodeP R w nb no 14 t x (.slice ao 0 cap) [] a) :
    Calls Try.prog 38 #[.pointer (some ⟨b, 0, none⟩), .pointer (some ⟨nb, no, none⟩)] w (PutPost w B b v (n + 1) (xs ++ ins 3 i f0 noText)) := by
  obtain ⟨_, c0, c1, c2, c3, c4, _, _⟩ := hn
  have hk := kids_ok nb no ao 0 cap w c3
  have hL := look_run ht hown hat
  have hLd : (Instr.lookup 49 (.map (some mb)) (.string t) true).run Try.prog w.drew = .ok (.tuple #[.int .i64 i, .bool true]) w.drew := look_run (w := w.drew) ht hown hat
  have hp : Calls Try.prog 19 #[.pointer (some ⟨b, 0, none⟩), .agg #[.int .i64 3, .int .i64 i, .float .f64 0, .string ⟨#[]⟩]] w.drew (PutPost w B b v (n + 1) (xs ++ ins 3 i f0 noText)) := (put_any B b v n xs 3 i f0 noText w.drew hbs ⟨hE.cell, hE.fz, hE.own, hE.ne⟩ rfl h63 hby).mono fun _ _ h => h.drew
  clear hE hown hat
  go_enter Try.func38, Try.ntmps38
  go_wp2_with (go_at_call 39; refine hk.mono ?_; rintro e w' ⟨rfl, rfl⟩)
  go_region
  all_goals
    go_wp2_with (first | (go_at_call 26; refine (fail_no _).mono ?_; rintro e w' ⟨rfl, rfl⟩) | (go_at_call 19; refine hp.mono ?_; intro e w' hpp; obtain rfl : e = .returned (.tuple #[]) := hpp.1))
    go_end0
    exact hpp
end Go.Proofs.Ytfkgfibmhhlemaa
namespace Go.Proofs.Ytfkgfibmhhlemaa
open Go.RowKit Go.Maps Go.WideMaps
set_option maxRecDepth 100000 in
set_option maxHeartbeats 400000 in
/-- a name that was never set -/
theorem expr_name_no (R : Nat → Prop) (b : Nat) (w : World) (mb m : Nat) (D : DataW Unit) (hm1 : w.cell? ⟨b, 1, none⟩ = some (.map (some mb))) (hown : w.ownsMap Try.prog 9 RI mb m D)
    (nb no : Nat) (t : ByteArray) (ht : t.size ≤ maxLen) (hat : At D t.data.toList none) (x : Nat) (ao : Option Addr) (cap : Nat) (a : Int) (hn : NodeP R w nb no 14 t x (.slice ao 0 cap) [] a) :
    Calls Try.prog 38 #[.pointer (some ⟨b, 0, none⟩), .pointer (some ⟨nb, no, none⟩)] w fun e w' => e = thrown ∧ w' = w.drew := by
  obtain ⟨_, c0, c1, c2, c3, c4, _, _⟩ := hn
  have hk := kids_ok nb no ao 0 cap w c3
  have hL := look_run ht hown hat
  have hLd : (Instr.lookup 49 (.map (some mb)) (.string t) true).run Try.prog w.drew = .ok (.tuple #[.int .i64 0, .bool false]) w.drew := look_run (w := w.drew) ht hown hat
  clear hown hat
  go_enter Try.func38, Try.ntmps38
  go_wp2_with (go_at_call 39; refine hk.mono ?_; rintro e w' ⟨rfl, rfl⟩)
  go_region
  all_goals
    go_wp2_with (go_at_call 26; refine (fail_yes _).mono ?_; rintro e w' ⟨rfl, rfl⟩)
    exact ⟨rfl, rfl, rfl⟩
set_option maxRecDepth 100000 in
set_option maxHeartbeats 400000 in
/-- a kind that is none of an expression's -/
theorem expr_kind_no (R : Nat → Prop) (b : Nat) (w : World) (nb no : Nat) (k : Int) (h14 : (k == 14) = false) (h15 : (k == 15) = false) (h16 : (k == 16) = false) (h17 : (k == 17) = false) (h18 : (k == 18) = false) (h19 : (k == 19) = false)
    (t : ByteArray) (x : Nat) (S : Value) (ks : List Nd) (a : Int) (hn : NodeP R w nb no k t x S ks a) :
    Calls Try.prog 38 #[.pointer (some ⟨b, 0, none⟩), .pointer (some ⟨nb, no, none⟩)] w fun e w' => e = thrown ∧ w' = w := by
  obtain ⟨_, c0, c1, c2, c3, c4, _, _⟩ := hn
  go_enter Try.func38, Try.ntmps38
  go_wp2_with (go_at_call 26; refine (fail_yes _).mono ?_; rintro e w' ⟨rfl, rfl⟩)
  exact ⟨rfl, rfl, rfl⟩
end Go.Proofs.Ytfkgfibmhhlemaa
namespace Go.Proofs.Ytfkgfibmhhlemaa
open Go.RowKit Go.Maps Go.WideMaps
theorem Lays.trans {w w1 w2 : World} {B b n m m2 : Nat} {v v1 v2 : Value} {xs new new2 : List Value} (h1 : Lays w B b v n xs new m v1 w1) (h2 : Lays w1 B b v1 (n + m) (xs ++ new) new2 m2 v2 w2) :
    Lays w B b v n xs (new ++ new2) (m + m2) v2 w2 := by
  refine ⟨by rw [← Nat.add_assoc, ← List.append_assoc]; exact h2.em, fun o ho => (h2.cells o ho).trans (h1.cells o ho), fun o => (h2.frozen o).trans (h1.frozen o),
    ⟨h2.kept.os.trans h1.kept.os, h2.kept.tape.trans h1.kept.tape, h2.kept.output.trans h1.kept.output, Nat.le_trans h1.kept.size h2.kept.size, fun k hk hS => ?_⟩, fun k hk => ?_⟩
  · refine (h2.kept.block k (Nat.lt_of_lt_of_le hk h1.kept.size) fun h => ?_).trans (h1.kept.block k hk hS)
    rcases h with h | h
    · exact hS (.inl h)
    · rcases h1.fresh k h with h | h
      · exact hS (.inr h)
      · omega
  · rcases h2.fresh k hk with h | h
    · exact h1.fresh k h
    · exact .inr (Nat.le_trans h1.kept.size h)
theorem Lays.of_put {w w' : World} {B b n : Nat} {v : Value} {xs new : List Value} {e : Ending} (h : PutPost w B b v (n + 1) (xs ++ new) e w') : ∃ v', Lays w B b v n xs new 1 v' w' := by
  obtain ⟨_, v', h1, h2, h3, h4, h5⟩ := h
  exact ⟨v', h1, h2, h3, h4, h5⟩
theorem Lays.refl {w : World} {B b n : Nat} {v : Value} {xs : List Value} (h : Em w B b v n xs) : Lays w B b v n xs [] 0 v w :=
  ⟨by rw [List.append_nil]; exact h, fun _ _ => rfl, fun _ => rfl, kp_refl _ _, fun _ h => .inl h⟩
end Go.Proofs.Ytfkgfibmhhlemaa
namespace Go.Proofs.Ytfkgfibmhhlemaa
open Go.RowKit Go.Maps Go.WideMaps
theorem one_close {w w1 w' : World} {B b n : Nat} {v v1 : Value} {xs new : List Value} {op arg : Int} {num : Value} {tx : ByteArray} (hE : Em w B b v n xs) (h1 : Lays w B b v n xs new (cnt new) v1 w1) (h2 : PutPost w1 B b v1 (n + cnt new + 1) (xs ++ new ++ ins op arg num tx) (.returned (.tuple #[])) w') :
    ExprPost w B b v n xs (some (new ++ ins op arg num tx)) (.returned (.tuple #[])) w' := by
  obtain ⟨v', h2⟩ := Lays.of_put h2
  have hl : new.length = cnt new * 4 := by
    have a := h1.em.own.1
    have c := hE.own.1
    rw [List.length_append, Nat.add_mul] at a; omega
  have hc : cnt (new ++ ins op arg num tx) = cnt new + 1 := by
    unfold cnt at hl ⊢
    rw [List.length_append]; show (new.length + 4) / 4 = _; omega
  refine ⟨rfl, v', ?_⟩
  rw [hc]
  exact h1.trans h2
set_option maxRecDepth 100000 in
set_option maxHeartbeats 800000 in
/-- a unary expression whose kid is laid -/
theorem expr_unary (R : Nat → Prop) (B b : Nat) (v : Value) (n : Nat) (xs new : List Value) (w : World)
    (hE : Em w B b v n xs) (nb no kb ko : Nat) (t : ByteArray) (op : Int) (ho : (op = 6 ∧ t.toList = [33]) ∨ (op = 5 ∧ t.toList = [45])) (x : Nat) (cap : Nat) (kd : Nd) (a : Int) (hn : NodeP R w nb no 17 t x (.slice (some ⟨kb, ko, none⟩) 1 cap) [kd] a)
    (hkid : Calls Try.prog 38 #[.pointer (some ⟨b, 0, none⟩), .pointer (some ⟨kb, ko, none⟩)] w (ExprPost w B b v n xs (some new)))
    (hput : ∀ w1 v1, Lays w B b v n xs new (cnt new) v1 w1 → Calls Try.prog 19 #[.pointer (some ⟨b, 0, none⟩), .agg #[.int .i64 op, .int .i64 0, .float .f64 0, .string ⟨#[]⟩]] w1 (PutPost w1 B b v1 (n + cnt new + 1) (xs ++ new ++ ins op 0 f0 noText))) :
    Calls Try.prog 38 #[.pointer (some ⟨b, 0, none⟩), .pointer (some ⟨nb, no, none⟩)] w (ExprPost w B b v n xs (some (new ++ ins op 0 f0 noText))) := by
  obtain ⟨_, c0, c1, c2, c3, c4, _, _⟩ := hn
  have hk := kids_ok nb no (some ⟨kb, ko, none⟩) 1 cap w c3
  have hcl : ∀ w1 v1 w', Lays w B b v n xs new (cnt new) v1 w1 → PutPost w1 B b v1 (n + cnt new + 1) (xs ++ new ++ ins op 0 f0 noText) (.returned (.tuple #[])) w' → ExprPost w B b v n xs (some (new ++ ins op 0 f0 noText)) (.returned (.tuple #[])) w' := fun _ _ _ h1 h2 => one_close hE h1 h2
  clear hE
  rcases ho with ⟨rfl, ht⟩ | ⟨rfl, ht⟩
  · have e1 : (t.toList == [33]) = true := by rw [ht]; decide
    have e2 : (t.toList == [45]) = false := by rw [ht]; decide
    have e3 : (t.toList != [33]) = false := by rw [ht]; decide
    have e4 : (t.toList != [45]) = true := by rw [ht]; decide
    clear ht
    go_enter Try.func38, Try.ntmps38
    go_wp2_with (first | (go_at_call 26; refine (fail_no _).mono ?_; rintro e w' ⟨rfl, rfl⟩) | (go_at_call 39; refine hk.mono ?_; rintro e w' ⟨rfl, rfl⟩) | (go_at_call 38; refine hkid.mono ?_; intro e w1 hp1; obtain ⟨rfl, v1, hl1⟩ := hp1) | (go_at_call 19; refine (hput _ _ hl1).mono ?_; intro e w' hpp; obtain rfl : e = .returned (.tuple #[]) := hpp.1))
    go_end0
    exact hcl _ _ _ hl1 hpp
  · have e1 : (t.toList == [33]) = false := by rw [ht]; decide
    have e2 : (t.toList == [45]) = true := by rw [ht]; decide
    have e3 : (t.toList != [33]) = true := by rw [ht]; decide
    have e4 : (t.toList != [45]) = false := by rw [ht]; decide
    clear ht
    go_enter Try.func38, Try.ntmps38
    go_wp2_with (first | (go_at_call 26; refine (fail_no _).mono ?_; rintro e w' ⟨rfl, rfl⟩) | (go_at_call 39; refine hk.mono ?_; rintro e w' ⟨rfl, rfl⟩) | (go_at_call 38; refine hkid.mono ?_; intro e w1 hp1; obtain ⟨rfl, v1, hl1⟩ := hp1) | (go_at_call 19; refine (hput _ _ hl1).mono ?_; intro e w' hpp; obtain rfl : e = .returned (.tuple #[]) := hpp.1))
    go_end0
    exact hcl _ _ _ hl1 hpp
end Go.Proofs.Ytfkgfibmhhlemaa
namespace Go.Proofs.Ytfkgfibmhhlemaa
open Go.RowKit Go.Maps Go.WideMaps
set_option maxRecDepth 100000 in
set_option maxHeartbeats 800000 in
/-- a unary expression whose kid throws -/
theorem expr_unary_kid (R : Nat → Prop) (B b : Nat) (v : Value) (n : Nat) (xs : List Value) (w : World)
    (nb no kb ko : Nat) (t : ByteArray) (ho : t.toList = [33] ∨ t.toList = [45]) (x : Nat) (cap : Nat) (kd : Nd) (a : Int) (hn : NodeP R w nb no 17 t x (.slice (some ⟨kb, ko, none⟩) 1 cap) [kd] a)
    (hkid : Calls Try.prog 38 #[.pointer (some ⟨b, 0, none⟩), .pointer (some ⟨kb, ko, none⟩)] w (ExprPost w B b v n xs none)) :
    Calls Try.prog 38 #[.pointer (some ⟨b, 0, none⟩), .pointer (some ⟨nb, no, none⟩)] w (ExprPost w B b v n xs none) := by
  obtain ⟨_, c0, c1, c2, c3, c4, _, _⟩ := hn
  have hk := kids_ok nb no (some ⟨kb, ko, none⟩) 1 cap w c3
  rcases ho with ht | ht
  · have e1 : (t.toList == [33]) = true := by rw [ht]; decide
    have e2 : (t.toList == [45]) = false := by rw [ht]; decide
    have e3 : (t.toList != [33]) = false := by rw [ht]; decide
    have e4 : (t.toList != [45]) = true := by rw [ht]; decide
    clear ht
    go_enter Try.func38, Try.ntmps38
    go_wp2_with (first | (go_at_call 26; refine (fail_no _).mono ?_; rintro e w' ⟨rfl, rfl⟩) | (go_at_call 39; refine hk.mono ?_; rintro e w' ⟨rfl, rfl⟩) | (go_at_call 38; refine hkid.mono ?_; intro e w1 hp1; obtain ⟨rfl, hl1⟩ := hp1))
    exact ⟨rfl, rfl, hl1⟩
  · have e1 : (t.toList == [33]) = false := by rw [ht]; decide
    have e2 : (t.toList == [45]) = true := by rw [ht]; decide
    have e3 : (t.toList != [33]) = true := by rw [ht]; decide
    have e4 : (t.toList != [45]) = false := by rw [ht]; decide
    clear ht
    go_enter Try.func38, Try.ntmps38
    go_wp2_with (first | (go_at_call 26; refine (fail_no _).mono ?_; rintro e w' ⟨rfl, rfl⟩) | (go_at_call 39; refine hk.mono ?_; rintro e w' ⟨rfl, rfl⟩) | (go_at_call 38; refine hkid.mono ?_; intro e w1 hp1; obtain ⟨rfl, hl1⟩ := hp1))
    exact ⟨rfl, rfl, hl1⟩
set_option maxRecDepth 100000 in
set_option maxHeartbeats 800000 in
/-- a unary expression with another sign -/
theorem expr_unary_sign (R : Nat → Prop) (b : Nat) (w : World) (nb no : Nat) (t : ByteArray) (h33 : t.toList ≠ [33]) (h45 : t.toList ≠ [45]) (x : Nat) (S : Value) (ks : List Nd) (a : Int) (hn : NodeP R w nb no 17 t x S ks a) :
    Calls Try.prog 38 #[.pointer (some ⟨b, 0, none⟩), .pointer (some ⟨nb, no, none⟩)] w fun e w' => e = thrown ∧ w' = w := by
  obtain ⟨_, c0, c1, c2, c3, c4, _, _⟩ := hn
  have e1 : (t.toList == [33]) = false := by simpa using h33
  have e2 : (t.toList == [45]) = false := by simpa using h45
  have e3 : (t.toList != [33]) = true := by simpa using h33
  have e4 : (t.toList != [45]) = true := by simpa using h45
  clear h33 h45
  go_enter Try.func38, Try.ntmps38
  go_wp2_with (go_at_call 26; refine (fail_yes _).mono ?_; rintro e w' ⟨rfl, rfl⟩)
  exact ⟨rfl, rfl, rfl⟩
end Go.Proofs.Ytfkgfibmhhlemaa
