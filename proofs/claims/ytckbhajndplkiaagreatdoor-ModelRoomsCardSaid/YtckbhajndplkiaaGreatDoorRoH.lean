/- The functions of this program that the evaluator takes by a contract, and what it knows at the start. No conditions. -/
import Derived.Test.YtckbhajndplkiaaGreatDoorVH
import Derived.Test.YtckbhajndplkiaaGreatDoorSh
import Derived.Test.YtckbhajndplkiaaGreatDoorSt
import Derived.KernelRfl
namespace Go.Proofs.YtckbhajndplkiaaGreatDoor
open Go.VM
def extL : List (Nat × Nat) := [(336, 4), (349, 5), (382, 1), (356, 2), (281, 3), (400, 6)]
def sumL : List (Nat × Nat) := [(278, 1), (324, 1), (202, 2)]
def sumLA : List (Nat × Nat) := [(122, 4), (60, 6), (305, 7), (278, 1), (324, 1), (202, 2)]
def sumLM : List (Nat × Nat) := [(11, 3), (122, 4), (60, 6), (305, 7), (278, 1), (324, 1), (202, 2)]
def tab0 : List Row := [
  ⟨[.str 0 0, .str 2 25647], .tup [.str 1 100, .int .i64 0], []⟩,
  ⟨[.str 0 0, .str 1 100], .tup [.str 1 100, .int .i64 0], []⟩,
  ⟨[.str 0 0, .str 2 25903], .tup [.str 1 101, .int .i64 0], []⟩,
  ⟨[.str 0 0, .str 1 101], .tup [.str 1 101, .int .i64 0], []⟩]
noncomputable def memoT (k : Nat) (_ : List AV) : List Row := match k with
  | 0 => tab0
  | _ => []
noncomputable abbrev memoTM := memoT
noncomputable def primT (k : Nat) : List AV → Heap → Option (AV × Heap) := match k with
  | 2 => sortedStr isItS 9
  | 3 => repeatP
  | _ => noPrim k
abbrev hook0 : Hook := ⟨lookN sumL, lookN extL, fun _ _ => [], noPrim⟩
noncomputable abbrev hookA : Hook := ⟨lookN sumLA, lookN extL, memoT, primT⟩
noncomputable abbrev hookM : Hook := ⟨lookN sumLM, lookN extL, memoTM, primT⟩
def key0 : Key := ⟨.d0, .d0, .d1, .d0, .d0⟩
def key4 : Key := ⟨.d0, .d0, .d0, .d0, .d4⟩
def spaceZ : List Int := [0, 0, 0, 0, 0, 0, 0, 0, 0, 1, 1, 1, 1, 1, 0, 0, 0, 0, 0, 0, 0, 0, 0, 0, 0, 0, 0, 0, 0, 0, 0, 0, 1, 0, 0, 0, 0, 0, 0, 0, 0, 0, 0, 0, 0, 0, 0, 0, 0, 0, 0, 0, 0, 0, 0, 0, 0, 0, 0, 0, 0, 0, 0, 0, 0, 0, 0, 0, 0, 0, 0, 0, 0, 0, 0, 0, 0, 0, 0, 0, 0, 0, 0, 0, 0, 0, 0, 0, 0, 0, 0, 0, 0, 0, 0, 0, 0, 0, 0, 0, 0, 0, 0, 0, 0, 0, 0, 0, 0, 0, 0, 0, 0, 0, 0, 0, 0, 0, 0, 0, 0, 0, 0, 0, 0, 0, 0, 0, 0, 0, 0, 0, 0, 0, 0, 0, 0, 0, 0, 0, 0, 0, 0, 0, 0, 0, 0, 0, 0, 0, 0, 0, 0, 0, 0, 0, 0, 0, 0, 0, 0, 0, 0, 0, 0, 0, 0, 0, 0, 0, 0, 0, 0, 0, 0, 0, 0, 0, 0, 0, 0, 0, 0, 0, 0, 0, 0, 0, 0, 0, 0, 0, 0, 0, 0, 0, 0, 0, 0, 0, 0, 0, 0, 0, 0, 0, 0, 0, 0, 0, 0, 0, 0, 0, 0, 0, 0, 0, 0, 0, 0, 0, 0, 0, 0, 0, 0, 0, 0, 0, 0, 0, 0, 0, 0, 0, 0, 0, 0, 0, 0, 0, 0, 0, 0, 0, 0, 0, 0, 0, 0, 0, 0, 0, 0, 0]
def laidL : List (Nat × AObj) := [(1, .fixed 0 (spaceZ.map fun z => AV.int .u8 z))]
def tot (_ : Nat) : Nat := 256
end Go.Proofs.YtckbhajndplkiaaGreatDoor
