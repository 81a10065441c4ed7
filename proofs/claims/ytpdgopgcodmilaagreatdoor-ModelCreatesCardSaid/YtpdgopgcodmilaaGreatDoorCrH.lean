/- The functions of this program that the evaluator takes by a contract, and what it knows at the start. No conditions. -/
import Derived.Test.YtpdgopgcodmilaaGreatDoorVH
import Derived.Test.YtpdgopgcodmilaaGreatDoorSh
import Derived.Test.YtpdgopgcodmilaaGreatDoorSt
import Derived.Test.YtpdgopgcodmilaaGreatDoorCrW
import Derived.KernelRfl
namespace Go.Proofs.YtpdgopgcodmilaaGreatDoor
open Go.VM
def extL : List (Nat × Nat) := [(320, 4), (333, 5), (366, 1), (340, 2), (265, 3), (384, 6)]
def sumL : List (Nat × Nat) := [(262, 1), (308, 1), (186, 2)]
def sumLA : List (Nat × Nat) := [(106, 4), (44, 6), (289, 7), (262, 1), (308, 1), (186, 2)]
def sumLM : List (Nat × Nat) := [(4, 3), (5, 5), (10, 8), (106, 4), (44, 6), (289, 7), (262, 1), (308, 1), (186, 2)]
def tab0 : List Row := [
  ⟨[.str 0 0, .str 3 3171887], .tup [.str 2 12390, .int .i64 0], []⟩,
  ⟨[.str 0 0, .str 3 3237423], .tup [.str 2 12646, .int .i64 0], []⟩,
  ⟨[.str 0 0, .str 3 3302959], .tup [.str 2 12902, .int .i64 0], []⟩,
  ⟨[.str 0 0, .str 3 3368495], .tup [.str 2 13158, .int .i64 0], []⟩,
  ⟨[.str 0 0, .str 3 3434031], .tup [.str 2 13414, .int .i64 0], []⟩,
  ⟨[.str 0 0, .str 3 3499567], .tup [.str 2 13670, .int .i64 0], []⟩,
  ⟨[.str 0 0, .str 3 3565103], .tup [.str 2 13926, .int .i64 0], []⟩,
  ⟨[.str 0 0, .str 3 3630639], .tup [.str 2 14182, .int .i64 0], []⟩,
  ⟨[.str 0 0, .str 3 3696175], .tup [.str 2 14438, .int .i64 0], []⟩,
  ⟨[.str 0 0, .str 2 12390], .tup [.str 2 12390, .int .i64 0], []⟩,
  ⟨[.str 0 0, .str 2 12646], .tup [.str 2 12646, .int .i64 0], []⟩,
  ⟨[.str 0 0, .str 2 12902], .tup [.str 2 12902, .int .i64 0], []⟩,
  ⟨[.str 0 0, .str 2 13158], .tup [.str 2 13158, .int .i64 0], []⟩,
  ⟨[.str 0 0, .str 2 13414], .tup [.str 2 13414, .int .i64 0], []⟩,
  ⟨[.str 0 0, .str 2 13670], .tup [.str 2 13670, .int .i64 0], []⟩,
  ⟨[.str 0 0, .str 2 13926], .tup [.str 2 13926, .int .i64 0], []⟩,
  ⟨[.str 0 0, .str 2 14182], .tup [.str 2 14182, .int .i64 0], []⟩,
  ⟨[.str 0 0, .str 2 14438], .tup [.str 2 14438, .int .i64 0], []⟩,
  ⟨[.str 0 0, .str 1 47], .tup [.str 0 0, .int .i64 0], []⟩]
noncomputable def memoT (k : Nat) (_ : List AV) : List Row := match k with
  | 0 => tab0
  | _ => []
def faceRow0 : Row := ⟨[], .func (.func 10) [] [.ptr ⟨.d3, .d0, .d0, .d0, .d4⟩ 0, .ptr ⟨.d5, .d0, .d3, .d0, .d4⟩ 0], [
  (⟨.d3, .d0, .d0, .d0, .d4⟩, .cells 28 [.ptr ⟨.d2, .d0, .d0, .d0, .d4⟩ 0] false 0),
  (⟨.d2, .d0, .d0, .d0, .d4⟩, .cells 54 [.map ⟨.d0, .d0, .d0, .d0, .d4⟩, .map ⟨.d1, .d0, .d0, .d0, .d4⟩, .func (.func 15) [] [], .int .i64 0] false 0),
  (⟨.d0, .d0, .d0, .d0, .d4⟩, .map [(.str 1 116, .agg [.nilSlice], 0)] 1),
  (⟨.d1, .d0, .d0, .d0, .d4⟩, .map [(.int .i64 1, .ptr ⟨.d4, .d0, .d3, .d0, .d4⟩ 0, 0)] 1),
  (⟨.d4, .d0, .d3, .d0, .d4⟩, .cells 178 [.ptr ⟨.d3, .d7, .d2, .d0, .d4⟩ 0, .ptr ⟨.d0, .d0, .d3, .d0, .d4⟩ 0, .ptr ⟨.d6, .d7, .d2, .d0, .d4⟩ 0, .nilSlice, .nilSlice] false 0),
  (⟨.d3, .d7, .d2, .d0, .d4⟩, .cells 260 [.slice ⟨.d2, .d7, .d2, .d0, .d4⟩ 0 1 (.more 4), .int .i64 0, .int .i64 20000, .int .i64 0, .nilSlice, .bool false, .str 0 0, .float .f64 0, .bool false, .str 0 0, .float .f64 0, .bool false, .str 0 0, .float .f64 0, .bool false, .str 0 0, .float .f64 0, .bool false, .str 0 0, .float .f64 0, .bool false, .str 0 0, .float .f64 0, .bool false, .str 0 0, .float .f64 0, .bool false, .str 0 0, .float .f64 0, .bool false, .str 0 0, .float .f64 0, .bool false, .str 0 0, .float .f64 0, .bool false, .str 0 0, .float .f64 0, .bool false, .str 0 0, .float .f64 0, .bool false, .str 0 0, .float .f64 0, .bool false, .str 0 0, .float .f64 0, .bool false, .str 0 0, .float .f64 0, .bool false, .str 0 0, .float .f64 0, .bool false, .str 0 0, .float .f64 0, .bool false, .str 0 0, .float .f64 0, .bool false, .str 0 0, .float .f64 0, .bool false, .str 0 0, .float .f64 0, .bool false, .str 0 0, .float .f64 0, .bool false, .str 0 0, .float .f64 0, .bool false, .str 0 0, .float .f64 0, .bool false, .str 0 0, .float .f64 0, .bool false, .str 0 0, .float .f64 0, .bool false, .str 0 0, .float .f64 0, .bool false, .str 0 0, .float .f64 0, .bool false, .str 0 0, .float .f64 0, .bool false, .str 0 0, .float .f64 0, .bool false, .str 0 0, .float .f64 0, .bool false, .str 0 0, .float .f64 0, .bool false, .str 0 0, .float .f64 0, .bool false, .str 0 0, .float .f64 0, .bool false, .str 0 0, .float .f64 0, .bool false, .str 0 0, .float .f64 0, .bool false, .str 0 0, .float .f64 0, .bool false, .str 0 0, .float .f64 0, .bool false, .str 0 0, .float .f64 0, .bool false, .str 0 0, .float .f64 0, .bool false, .str 0 0, .float .f64 0, .bool false, .str 0 0, .float .f64 0, .bool false, .str 0 0, .float .f64 0, .bool false, .str 0 0, .float .f64 0, .bool false, .str 0 0, .float .f64 0, .bool false, .str 0 0, .float .f64 0, .bool false, .str 0 0, .float .f64 0, .bool false, .str 0 0, .float .f64 0, .bool false, .str 0 0, .float .f64 0, .bool false, .str 0 0, .float .f64 0, .bool false, .str 0 0, .float .f64 0, .bool false, .str 0 0, .float .f64 0, .bool false, .str 0 0, .float .f64 0, .bool false, .str 0 0, .float .f64 0, .bool false, .str 0 0, .float .f64 0, .bool false, .str 0 0, .float .f64 0, .bool false, .str 0 0, .float .f64 0, .bool false, .str 0 0, .float .f64 0, .bool false, .str 0 0, .float .f64 0, .bool false, .str 0 0, .float .f64 0, .bool false, .str 0 0, .float .f64 0, .bool false, .str 0 0, .float .f64 0, .bool false, .str 0 0, .float .f64 0, .bool false, .str 0 0, .float .f64 0, .bool false, .str 0 0, .float .f64 0, .int .i64 0, .int .i64 0, .str 0 0, .str 0 0, .int .i64 0, .int .i64 0, .int .i64 0, .int .i64 0, .str 0 0, .str 0 0, .int .i64 0, .str 0 0] false 0),
  (⟨.d2, .d7, .d2, .d0, .d4⟩, .cells 171 [.int .i64 0, .int .i64 0, .float .f64 0, .str 0 0] true 0),
  (⟨.d0, .d0, .d3, .d0, .d4⟩, .cells 263 [.nilSlice] false 0),
  (⟨.d6, .d7, .d2, .d0, .d4⟩, .cells 129 [.ptr ⟨.d5, .d7, .d2, .d0, .d4⟩ 0, .ptr ⟨.d5, .d7, .d2, .d0, .d4⟩ 0, .nilPtr, .nilPtr, .nilPtr, .nilPtr, .nilPtr, .nilPtr, .nilPtr, .nilPtr, .int .i64 0] false 0),
  (⟨.d5, .d7, .d2, .d0, .d4⟩, .cells 137 [.int .i64 1, .int .i64 493, .str 0 0, .map ⟨.d4, .d7, .d2, .d0, .d4⟩, .nilPtr, .str 0 0] false 0),
  (⟨.d4, .d7, .d2, .d0, .d4⟩, .map [] 0),
  (⟨.d5, .d0, .d3, .d0, .d4⟩, .cells 36 [.int .i64 0, .int .i64 0, .int .i64 1, .str 0 0, .nilSlice, .nilSlice, .int .i64 0, .int .i64 0, .int .i64 0, .int .i64 0, .str 0 0, .nilSlice, .int .i64 0, .int .i64 0] false 0)]⟩
def faceRows : List Row := [faceRow0]
noncomputable def memoTM (k : Nat) (_ : List AV) : List Row := match k with
  | 0 => tab0
  | 1 => faceRows
  | _ => []
noncomputable def primT (k : Nat) : List AV → Heap → Option (AV × Heap) := match k with
  | 2 => sortedStr isItS 9
  | 3 => repeatP
  | _ => noPrim k
abbrev hook0 : Hook := ⟨lookN sumL, lookN extL, fun _ _ => [], noPrim⟩
noncomputable abbrev hookA : Hook := ⟨lookN sumLA, lookN extL, memoT, primT⟩
noncomputable def primTM (k : Nat) : List AV → Heap → Option (AV × Heap) := match k with
  | 2 => sortedStr isItS 9
  | 3 => repeatP
  | 4 => fun a h => mrowK a h mrows
  | _ => noPrim k
noncomputable abbrev hookM : Hook := ⟨lookN sumLM, lookN extL, memoTM, primTM⟩
def key0 : Key := ⟨.d0, .d0, .d1, .d0, .d0⟩
def key4 : Key := ⟨.d0, .d0, .d0, .d0, .d4⟩
def keyI : Key := ⟨.d7, .d7, .d7, .d7, .d7⟩
def keyL : Key := ⟨.d7, .d7, .d7, .d7, .d7⟩
def keyA : Key := ⟨.d7, .d7, .d7, .d7, .d6⟩
def spaceZ : List Int := [0, 0, 0, 0, 0, 0, 0, 0, 0, 1, 1, 1, 1, 1, 0, 0, 0, 0, 0, 0, 0, 0, 0, 0, 0, 0, 0, 0, 0, 0, 0, 0, 1, 0, 0, 0, 0, 0, 0, 0, 0, 0, 0, 0, 0, 0, 0, 0, 0, 0, 0, 0, 0, 0, 0, 0, 0, 0, 0, 0, 0, 0, 0, 0, 0, 0, 0, 0, 0, 0, 0, 0, 0, 0, 0, 0, 0, 0, 0, 0, 0, 0, 0, 0, 0, 0, 0, 0, 0, 0, 0, 0, 0, 0, 0, 0, 0, 0, 0, 0, 0, 0, 0, 0, 0, 0, 0, 0, 0, 0, 0, 0, 0, 0, 0, 0, 0, 0, 0, 0, 0, 0, 0, 0, 0, 0, 0, 0, 0, 0, 0, 0, 0, 0, 0, 0, 0, 0, 0, 0, 0, 0, 0, 0, 0, 0, 0, 0, 0, 0, 0, 0, 0, 0, 0, 0, 0, 0, 0, 0, 0, 0, 0, 0, 0, 0, 0, 0, 0, 0, 0, 0, 0, 0, 0, 0, 0, 0, 0, 0, 0, 0, 0, 0, 0, 0, 0, 0, 0, 0, 0, 0, 0, 0, 0, 0, 0, 0, 0, 0, 0, 0, 0, 0, 0, 0, 0, 0, 0, 0, 0, 0, 0, 0, 0, 0, 0, 0, 0, 0, 0, 0, 0, 0, 0, 0, 0, 0, 0, 0, 0, 0, 0, 0, 0, 0, 0, 0, 0, 0, 0, 0, 0, 0, 0, 0, 0, 0, 0, 0, 0, 0, 0, 0, 0, 0]
def laidL : List (Nat × AObj) := [(1, .fixed 0 (spaceZ.map fun z => AV.int .u8 z))]
def tot (_ : Nat) : Nat := 256
end Go.Proofs.YtpdgopgcodmilaaGreatDoor
