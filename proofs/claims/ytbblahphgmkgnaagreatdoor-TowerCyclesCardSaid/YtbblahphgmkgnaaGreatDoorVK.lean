/- What a function reaches, reckoned with one number. No conditions: a library text of the proof. -/
import Derived.Test.YtbblahphgmkgnaaGreatDoorVJ
import GoSem.ClaimFn
namespace Go.VM
noncomputable def reachM (P : Program) : Nat → List FuncId → List FuncId → Nat → List FuncId
 | 0, _, seen, _ => seen.reverse
 | _, [], seen, _ => seen.reverse
 | n + 1, f :: todo, seen, m =>
  cond (Nat.testBit m f) (reachM P n todo seen m) (reachM P n ((P.funcs[f]?).elim [] P.leadsTo ++ todo) (f :: seen) (m ||| 1 <<< f))
theorem reachM_eq (P : Program) : ∀ (n : Nat) (todo seen : List FuncId) (m : Nat), (∀ g, Nat.testBit m g = seen.contains g) → reachM P n todo seen m = P.closureVia n todo seen
 | 0, _, _, _, _ => rfl
 | n + 1, [], _, _, _ => rfl
 | n + 1, f :: todo, seen, m, h => by
  unfold reachM Program.closureVia
  rw [h f]
  cases hc : seen.contains f with
  | true => exact reachM_eq P n todo seen m h
  | false =>
   show reachM P n _ (f :: seen) (m ||| 1 <<< f) = P.closureVia n _ (f :: seen)
   refine reachM_eq P n _ _ _ fun g => ?_
   rw [Nat.testBit_or, h g, Nat.one_shiftLeft, Nat.testBit_two_pow, List.contains_cons]
   rw [Bool.or_comm]
   congr 1
   by_cases e : f = g
   ·subst e; simp
   ·have e' : ¬ g = f := fun x => e x.symm
    simp [e, e']
theorem closure_eq (P : Program) (f : FuncId) : P.closure f = reachM P (1 + (P.funcs.toList.map fun g => (P.leadsTo g).length + 1).sum) [f] [] 0 :=
 (reachM_eq P _ _ _ _ fun g => by simp).symm
end Go.VM
