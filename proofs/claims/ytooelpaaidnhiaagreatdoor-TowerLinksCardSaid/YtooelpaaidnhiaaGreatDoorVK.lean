/- What a function reaches, reckoned with one number; a run in parts: up to its first fork, then way by way. No conditions: a library text of the proof. -/
import Derived.Test.YtooelpaaidnhiaaGreatDoorVJ
import GoSem.ClaimFn
noncomputable section
namespace Go.VM
def oS(P:Program):Nat→List FuncId→List FuncId→Nat→List FuncId
 | 0,_,seen,_=>seen.reverse
 | _,[],seen,_=>seen.reverse
 | n+1,f::todo,seen,m=>
  cond (Nat.testBit m f) (oS P n todo seen m) (oS P n ((P.funcs[f]?).elim [] P.leadsTo++todo) (f::seen) (m ||| 1 <<< f))
theorem oT(P:Program):∀ (n:Nat) (todo seen:List FuncId) (m:Nat),(∀ g,Nat.testBit m g=seen.contains g)→oS P n todo seen m=P.closureVia n todo seen
 | 0,_,_,_,_=>rfl
 | n+1,[],_,_,_=>rfl
 | n+1,f::todo,seen,m,h=>by
  unfold oS Program.closureVia
  rw [h f]
  cases hc:seen.contains f with
  | true=>exact oT P n todo seen m h
  | false=>
   show oS P n _ (f::seen) (m ||| 1 <<< f)=P.closureVia n _ (f::seen)
   refine oT P n _ _ _ fun g=>?_
   rw [Nat.testBit_or,h g,Nat.one_shiftLeft,Nat.testBit_two_pow,List.contains_cons]
   rw [Bool.or_comm]
   congr 1
   by_cases e:f=g
   ·subst e;simp
   ·have e':¬ g=f:=fun x=>e x.symm
    simp [e,e']
theorem closure_eq(P:Program)(f:FuncId):P.closure f=oS P (1+(P.funcs.toList.map fun g=>(P.leadsTo g).length+1).sum) [f] [] 0:=
 (oT P _ _ _ _ fun g=>by simp).symm
end Go.VM
end
noncomputable section
namespace Go.VM
section
variable (P:Program) [Hook]
def vX(T:Slots)(k:List AItem)(c:Ctx)(l:List (AV × Heap)):List St:=List.rec (motive:=fun _=>List St) [] (fun p _ r=>mq T k c p.1 p.2::r) l
def forkF(n:Nat):St→List St:=Nat.rec (motive:=fun _=>St→List St) (fun _=>[]) (fun _ ih s=>St.rec (motive:=fun _=>List St) (fun T k c h=>ih (oh P T k c h)) (fun m T c h=>ih (oi P m T c h)) (fun _ _=>[]) (fun l T k c=>vX T k c l) (fun _=>[]) s) n
def wayAt:List St→Nat→St
 | [],_=>.bad "no way"
 | s::_,0=>s
 | _::r,n+1=>wayAt r n
def waysN:List St→Nat
 | []=>0
 | _::r=>Nat.succ (waysN r)
def startX(laid:List (Nat × AObj))(f:Nat)(k:Key)(r:MRow):St:=match picks r.pre with
 | [c]=>startM P laid f r.args c k
 | _=>.bad "variants"
end
section
variable {P:Program} [Hook] {post:AV→Heap→Bool}
omit [Hook] in
theorem vY{ih:St→Bool}{T:Slots}{k:List AItem}{c:Ctx}:∀ {l:List (AV × Heap)},(∀ s ∈ vX T k c l,ih s=true)→pu ih T k c l=true
 | [],_=>rfl
 | p::l,h=>by
  have h1:ih (mq T k c p.1 p.2)=true:=h _ (List.mem_cons_self ..)
  have h2:=vY (l:=l) fun s hs=>h s (List.mem_cons_of_mem _ hs)
  show cond (ih (mq T k c p.1 p.2)) (pu ih T k c l) false=true
  rw [h1,h2];rfl
theorem oW{m:Nat}:∀ (n:Nat) (s:St),waysN (forkF P n s)≠0→(∀ s' ∈ forkF P n s,runF P post m s'=true)→∃ k,runF P post k s=true
 | 0,_,h,_=>absurd rfl h
 | n+1,s,h,hw=>by
  cases s with
  | go T k c hh=>
   obtain⟨j,hj⟩:=oW n (oh P T k c hh) h hw
   exact⟨j+1,hj⟩
  | un am T c hh=>
   obtain⟨j,hj⟩:=oW n (oi P am T c hh) h hw
   exact⟨j+1,hj⟩
  | done=>exact absurd rfl h
  | bad=>exact absurd rfl h
  | alt l T k c=>exact⟨m+1,vY (l:=l) hw⟩
omit [Hook] in
theorem vZ{p:St→Prop}:∀ {l:List St} {n:Nat},waysN l=n→(∀ i,i < n→p (wayAt l i))→∀ s ∈ l,p s
 | [],_,_,_,_,hs=>by cases hs
 | a::l,n,hl,h,s,hs=>by
  subst hl
  cases hs with
  | head=>exact h 0 (Nat.succ_pos _)
  | tail _ hs=>exact vZ rfl (fun i hi=>h (i+1) (Nat.succ_lt_succ hi)) s hs
theorem row_split{laid:List (Nat × AObj)}{f n m len:Nat}{k:Key}{r:MRow}(hok:r.okX P laid=true)(hp:Nat.beq (List.length (picks r.pre)) 1=true)(hl:Nat.beq (waysN (forkF P n (startX P laid f k r))) (len+1)=true)
  (hw:∀ i,i < len+1→runF P (covers r) m (wayAt (forkF P n (startX P laid f k r)) i)=true):RowRunsX P laid f k r:=by
 have hl:=Nat.eq_of_beq_eq_true hl
 obtain⟨j,hj⟩:=oW (post:=covers r) n (startX P laid f k r) (by rw [hl];exact Nat.succ_ne_zero _) (vZ (p:=fun s=>runF P (covers r) m s=true) hl hw)
 refine⟨hok,j,fun c hc=>?_⟩
 unfold startX at hj
 generalize picks r.pre=ps at hp hc hj
 cases ps with
 | nil=>cases hc
 | cons a l=>
  cases l with
  | nil=>
   obtain rfl:c=a:=by simpa using hc
   exact hj
  | cons _ _=>cases hp
end
end Go.VM
end
