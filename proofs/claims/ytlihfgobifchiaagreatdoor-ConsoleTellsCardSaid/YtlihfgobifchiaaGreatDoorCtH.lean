/- The functions of this program that the evaluator takes by a contract, and what it knows at the start. No conditions. -/
import Derived.Test.YtlihfgobifchiaaGreatDoorVH
import Derived.Test.YtlihfgobifchiaaGreatDoorSh
import Derived.Test.YtlihfgobifchiaaGreatDoorSt
import Derived.KernelRfl
namespace Go.Proofs.YtlihfgobifchiaaGreatDoor
open Go.VM
def extL : List (Nat × Nat) := [(243, 4), (245, 5), (161, 1), (322, 2), (168, 3), (241, 6), (109, 8)]
def sumL : List (Nat × Nat) := [(60, 1), (110, 1), (181, 2)]
def sumLA : List (Nat × Nat) := [(121, 4), (217, 6), (393, 7), (60, 1), (110, 1), (181, 2)]
def sumLM : List (Nat × Nat) := [(4, 3), (121, 4), (217, 6), (393, 7), (60, 1), (110, 1), (181, 2)]
def tab0 : List Row := [
  ⟨[.str 0 0, .str 1 102], .tup [.str 1 102, .int .i64 0], []⟩,
  ⟨[.str 0 0, .str 2 26159], .tup [.str 1 102, .int .i64 0], []⟩,
  ⟨[.str 0 0, .str 1 100], .tup [.str 1 100, .int .i64 0], []⟩,
  ⟨[.str 0 0, .str 4 1714381103], .tup [.str 3 6696801, .int .i64 0], []⟩]
noncomputable def memoT (k : Nat) (_ : List AV) : List Row := match k with
  | 0 => tab0
  | _ => []
noncomputable abbrev memoTM := memoT
noncomputable def primT (k : Nat) : List AV → Heap → Option (AV × Heap) := match k with
  | 2 => sortedStr isItS 9
  | 3 => repeatP
  | _ => noPrim k
abbrev hook0 : Hook := ⟨lookN sumL, lookN extL, fun _ _ => [], noPrim⟩
noncomputable abbrev hookA : Hook := ⟨lookN sumLA, lookN extL, memoT, primT⟩
noncomputable abbrev hookM : Hook := ⟨lookN sumLM, lookN extL, memoTM, primT⟩
def key0 : Key := ⟨.d0, .d0, .d1, .d0, .d0⟩
def key4 : Key := ⟨.d0, .d0, .d0, .d0, .d4⟩
def keyI : Key := ⟨.d7, .d7, .d7, .d7, .d7⟩
def spaceZ : List Int := [0, 0, 0, 0, 0, 0, 0, 0, 0, 1, 1, 1, 1, 1, 0, 0, 0, 0, 0, 0, 0, 0, 0, 0, 0, 0, 0, 0, 0, 0, 0, 0, 1, 0, 0, 0, 0, 0, 0, 0, 0, 0, 0, 0, 0, 0, 0, 0, 0, 0, 0, 0, 0, 0, 0, 0, 0, 0, 0, 0, 0, 0, 0, 0, 0, 0, 0, 0, 0, 0, 0, 0, 0, 0, 0, 0, 0, 0, 0, 0, 0, 0, 0, 0, 0, 0, 0, 0, 0, 0, 0, 0, 0, 0, 0, 0, 0, 0, 0, 0, 0, 0, 0, 0, 0, 0, 0, 0, 0, 0, 0, 0, 0, 0, 0, 0, 0, 0, 0, 0, 0, 0, 0, 0, 0, 0, 0, 0, 0, 0, 0, 0, 0, 0, 0, 0, 0, 0, 0, 0, 0, 0, 0, 0, 0, 0, 0, 0, 0, 0, 0, 0, 0, 0, 0, 0, 0, 0, 0, 0, 0, 0, 0, 0, 0, 0, 0, 0, 0, 0, 0, 0, 0, 0, 0, 0, 0, 0, 0, 0, 0, 0, 0, 0, 0, 0, 0, 0, 0, 0, 0, 0, 0, 0, 0, 0, 0, 0, 0, 0, 0, 0, 0, 0, 0, 0, 0, 0, 0, 0, 0, 0, 0, 0, 0, 0, 0, 0, 0, 0, 0, 0, 0, 0, 0, 0, 0, 0, 0, 0, 0, 0, 0, 0, 0, 0, 0, 0, 0, 0, 0, 0, 0, 0, 0, 0, 0, 0, 0, 0, 0, 0, 0, 0, 0, 0]
def laidL : List (Nat × AObj) := [(4, .fixed 0 (spaceZ.map fun z => AV.int .u8 z))]
def tot (_ : Nat) : Nat := 256
end Go.Proofs.YtlihfgobifchiaaGreatDoor
