/- The functions of this program that the evaluator takes by a contract, and what it knows at the start. No conditions. -/
import Derived.Test.YtndjamcbdcjleaaGreatDoorVH
import Derived.Test.YtndjamcbdcjleaaGreatDoorSh
import Derived.Test.YtndjamcbdcjleaaGreatDoorSt
import Derived.KernelRfl
namespace Go.Proofs.YtndjamcbdcjleaaGreatDoor
open Go.VM
def extL : List (Nat × Nat) := [(252, 4), (236, 5), (257, 1), (222, 2), (235, 3), (290, 6)]
def sumL : List (Nat × Nat) := [(114, 1), (172, 1), (77, 2)]
def sumLA : List (Nat × Nat) := [(56, 4), (240, 6), (242, 7), (114, 1), (172, 1), (77, 2)]
def sumLM : List (Nat × Nat) := [(6, 3), (56, 4), (240, 6), (242, 7), (114, 1), (172, 1), (77, 2)]
def tab0 : List Row := [
  ⟨[.str 0 0, .str 2 24879], .tup [.str 1 97, .int .i64 0], []⟩,
  ⟨[.str 0 0, .str 1 97], .tup [.str 1 97, .int .i64 0], []⟩,
  ⟨[.str 0 0, .str 1 47], .tup [.str 0 0, .int .i64 0], []⟩,
  ⟨[.str 0 0, .str 3 6696801], .tup [.str 3 6696801, .int .i64 0], []⟩,
  ⟨[.str 0 0, .str 4 1714381103], .tup [.str 3 6696801, .int .i64 0], []⟩,
  ⟨[.str 0 0, .str 0 0], .tup [.str 0 0, .int .i64 400], []⟩,
  ⟨[.str 0 0, .str 4 1647272239], .tup [.str 3 6434657, .int .i64 0], []⟩]
noncomputable def memoT (k : Nat) (_ : List AV) : List Row := match k with
  | 0 => tab0
  | _ => []
noncomputable abbrev memoTM := memoT
noncomputable def primT (k : Nat) : List AV → Heap → Option (AV × Heap) := match k with
  | 2 => sortedStr isItS 9
  | 3 => repeatP
  | _ => noPrim k
abbrev hook0 : Hook := ⟨lookN sumL, lookN extL, fun _ _ => [], noPrim⟩
noncomputable abbrev hookA : Hook := ⟨lookN sumLA, lookN extL, memoT, primT⟩
noncomputable abbrev hookM : Hook := ⟨lookN sumLM, lookN extL, memoTM, primT⟩
def key0 : Key := ⟨.d0, .d0, .d1, .d0, .d0⟩
def key4 : Key := ⟨.d0, .d0, .d0, .d0, .d4⟩
def spaceZ : List Int := [0, 0, 0, 0, 0, 0, 0, 0, 0, 1, 1, 1, 1, 1, 0, 0, 0, 0, 0, 0, 0, 0, 0, 0, 0, 0, 0, 0, 0, 0, 0, 0, 1, 0, 0, 0, 0, 0, 0, 0, 0, 0, 0, 0, 0, 0, 0, 0, 0, 0, 0, 0, 0, 0, 0, 0, 0, 0, 0, 0, 0, 0, 0, 0, 0, 0, 0, 0, 0, 0, 0, 0, 0, 0, 0, 0, 0, 0, 0, 0, 0, 0, 0, 0, 0, 0, 0, 0, 0, 0, 0, 0, 0, 0, 0, 0, 0, 0, 0, 0, 0, 0, 0, 0, 0, 0, 0, 0, 0, 0, 0, 0, 0, 0, 0, 0, 0, 0, 0, 0, 0, 0, 0, 0, 0, 0, 0, 0, 0, 0, 0, 0, 0, 0, 0, 0, 0, 0, 0, 0, 0, 0, 0, 0, 0, 0, 0, 0, 0, 0, 0, 0, 0, 0, 0, 0, 0, 0, 0, 0, 0, 0, 0, 0, 0, 0, 0, 0, 0, 0, 0, 0, 0, 0, 0, 0, 0, 0, 0, 0, 0, 0, 0, 0, 0, 0, 0, 0, 0, 0, 0, 0, 0, 0, 0, 0, 0, 0, 0, 0, 0, 0, 0, 0, 0, 0, 0, 0, 0, 0, 0, 0, 0, 0, 0, 0, 0, 0, 0, 0, 0, 0, 0, 0, 0, 0, 0, 0, 0, 0, 0, 0, 0, 0, 0, 0, 0, 0, 0, 0, 0, 0, 0, 0, 0, 0, 0, 0, 0, 0, 0, 0, 0, 0, 0, 0]
def laidL : List (Nat × AObj) := [(1, .fixed 0 (spaceZ.map fun z => AV.int .u8 z))]
def tot (_ : Nat) : Nat := 256
end Go.Proofs.YtndjamcbdcjleaaGreatDoor
