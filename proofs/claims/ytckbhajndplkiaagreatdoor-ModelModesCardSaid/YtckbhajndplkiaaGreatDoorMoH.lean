/- The functions of this program that the evaluator takes by a contract, and what it knows at the start. No conditions. -/
import Derived.Test.YtckbhajndplkiaaGreatDoorVH
import Derived.Test.YtckbhajndplkiaaGreatDoorSh
import Derived.KernelRfl
namespace Go.Proofs.YtckbhajndplkiaaGreatDoor
open Go.VM
def extL : List (Nat × Nat) := [(336, 4), (349, 5), (382, 1), (356, 2), (281, 3), (400, 6)]
def sumL : List (Nat × Nat) := [(278, 1), (324, 1), (202, 2)]
def sumLA : List (Nat × Nat) := [(122, 4), (278, 1), (324, 1), (202, 2)]
def sumLM : List (Nat × Nat) := [(11, 3), (12, 5), (122, 4), (278, 1), (324, 1), (202, 2)]
def tab0 : List Row := [
  ⟨[.str 0 0, .str 2 25647], .tup [.str 1 100, .int .i64 0], []⟩,
  ⟨[.str 0 0, .str 1 47], .tup [.str 0 0, .int .i64 0], []⟩,
  ⟨[.str 0 0, .str 2 26159], .tup [.str 1 102, .int .i64 0], []⟩,
  ⟨[.str 0 0, .str 1 100], .tup [.str 1 100, .int .i64 0], []⟩,
  ⟨[.str 0 0, .str 1 102], .tup [.str 1 102, .int .i64 0], []⟩,
  ⟨[.str 0 0, .str 2 25903], .tup [.str 1 101, .int .i64 0], []⟩,
  ⟨[.str 0 0, .str 2 26415], .tup [.str 1 103, .int .i64 0], []⟩,
  ⟨[.str 0 0, .str 1 101], .tup [.str 1 101, .int .i64 0], []⟩,
  ⟨[.str 0 0, .str 1 103], .tup [.str 1 103, .int .i64 0], []⟩]
noncomputable def memoT (k : Nat) (_ : List AV) : List Row := match k with
  | 0 => tab0
  | _ => []
def faceRow : Row := ⟨[], .func (.func 24) [] [.ptr ⟨.d3, .d0, .d0, .d0, .d4⟩ 0, .ptr ⟨.d5, .d0, .d3, .d0, .d4⟩ 0], [
  (⟨.d3, .d0, .d0, .d0, .d4⟩, .cells 28 [.ptr ⟨.d2, .d0, .d0, .d0, .d4⟩ 0] false 0),
  (⟨.d2, .d0, .d0, .d0, .d4⟩, .cells 55 [.map ⟨.d0, .d0, .d0, .d0, .d4⟩, .map ⟨.d1, .d0, .d0, .d0, .d4⟩, .func (.func 29) [] [], .int .i64 0] false 0),
  (⟨.d0, .d0, .d0, .d0, .d4⟩, .map [(.str 1 116, .agg [.nilSlice], 0)] 1),
  (⟨.d1, .d0, .d0, .d0, .d4⟩, .map [(.int .i64 1, .ptr ⟨.d4, .d0, .d3, .d0, .d4⟩ 0, 0)] 1),
  (⟨.d4, .d0, .d3, .d0, .d4⟩, .cells 180 [.ptr ⟨.d3, .d7, .d2, .d0, .d4⟩ 0, .ptr ⟨.d0, .d0, .d3, .d0, .d4⟩ 0, .ptr ⟨.d6, .d7, .d2, .d0, .d4⟩ 0, .nilSlice, .nilSlice] false 0),
  (⟨.d3, .d7, .d2, .d0, .d4⟩, .cells 260 [.slice ⟨.d2, .d7, .d2, .d0, .d4⟩ 0 1 (.more 4), .int .i64 0, .int .i64 20000, .int .i64 0, .nilSlice, .bool false, .str 0 0, .float .f64 0, .bool false, .str 0 0, .float .f64 0, .bool false, .str 0 0, .float .f64 0, .bool false, .str 0 0, .float .f64 0, .bool false, .str 0 0, .float .f64 0, .bool false, .str 0 0, .float .f64 0, .bool false, .str 0 0, .float .f64 0, .bool false, .str 0 0, .float .f64 0, .bool false, .str 0 0, .float .f64 0, .bool false, .str 0 0, .float .f64 0, .bool false, .str 0 0, .float .f64 0, .bool false, .str 0 0, .float .f64 0, .bool false, .str 0 0, .float .f64 0, .bool false, .str 0 0, .float .f64 0, .bool false, .str 0 0, .float .f64 0, .bool false, .str 0 0, .float .f64 0, .bool false, .str 0 0, .float .f64 0, .bool false, .str 0 0, .float .f64 0, .bool false, .str 0 0, .float .f64 0, .bool false, .str 0 0, .float .f64 0, .bool false, .str 0 0, .float .f64 0, .bool false, .str 0 0, .float .f64 0, .bool false, .str 0 0, .float .f64 0, .bool false, .str 0 0, .float .f64 0, .bool false, .str 0 0, .float .f64 0, .bool false, .str 0 0, .float .f64 0, .bool false, .str 0 0, .float .f64 0, .bool false, .str 0 0, .float .f64 0, .bool false, .str 0 0, .float .f64 0, .bool false, .str 0 0, .float .f64 0, .bool false, .str 0 0, .float .f64 0, .bool false, .str 0 0, .float .f64 0, .bool false, .str 0 0, .float .f64 0, .bool false, .str 0 0, .float .f64 0, .bool false, .str 0 0, .float .f64 0, .bool false, .str 0 0, .float .f64 0, .bool false, .str 0 0, .float .f64 0, .bool false, .str 0 0, .float .f64 0, .bool false, .str 0 0, .float .f64 0, .bool false, .str 0 0, .float .f64 0, .bool false, .str 0 0, .float .f64 0, .bool false, .str 0 0, .float .f64 0, .bool false, .str 0 0, .float .f64 0, .bool false, .str 0 0, .float .f64 0, .bool false, .str 0 0, .float .f64 0, .bool false, .str 0 0, .float .f64 0, .bool false, .str 0 0, .float .f64 0, .bool false, .str 0 0, .float .f64 0, .bool false, .str 0 0, .float .f64 0, .bool false, .str 0 0, .float .f64 0, .bool false, .str 0 0, .float .f64 0, .bool false, .str 0 0, .float .f64 0, .bool false, .str 0 0, .float .f64 0, .bool false, .str 0 0, .float .f64 0, .bool false, .str 0 0, .float .f64 0, .bool false, .str 0 0, .float .f64 0, .bool false, .str 0 0, .float .f64 0, .bool false, .str 0 0, .float .f64 0, .bool false, .str 0 0, .float .f64 0, .bool false, .str 0 0, .float .f64 0, .bool false, .str 0 0, .float .f64 0, .bool false, .str 0 0, .float .f64 0, .bool false, .str 0 0, .float .f64 0, .bool false, .str 0 0, .float .f64 0, .int .i64 0, .int .i64 0, .str 0 0, .str 0 0, .int .i64 0, .int .i64 0, .int .i64 0, .int .i64 0, .str 0 0, .str 0 0, .int .i64 0, .str 0 0] false 0),
  (⟨.d2, .d7, .d2, .d0, .d4⟩, .cells 173 [.int .i64 0, .int .i64 0, .float .f64 0, .str 0 0] true 0),
  (⟨.d0, .d0, .d3, .d0, .d4⟩, .cells 263 [.nilSlice] false 0),
  (⟨.d6, .d7, .d2, .d0, .d4⟩, .cells 131 [.ptr ⟨.d5, .d7, .d2, .d0, .d4⟩ 0, .ptr ⟨.d5, .d7, .d2, .d0, .d4⟩ 0, .nilPtr, .nilPtr, .nilPtr, .nilPtr, .nilPtr, .nilPtr, .nilPtr, .nilPtr, .int .i64 0] false 0),
  (⟨.d5, .d7, .d2, .d0, .d4⟩, .cells 139 [.int .i64 1, .int .i64 493, .str 0 0, .map ⟨.d4, .d7, .d2, .d0, .d4⟩, .nilPtr, .str 0 0] false 0),
  (⟨.d4, .d7, .d2, .d0, .d4⟩, .map [] 0),
  (⟨.d5, .d0, .d3, .d0, .d4⟩, .cells 36 [.int .i64 0, .int .i64 0, .int .i64 1, .str 0 0, .nilSlice, .nilSlice, .int .i64 0, .int .i64 0, .int .i64 0, .int .i64 0, .str 0 0, .nilSlice, .int .i64 0, .int .i64 0] false 0)]⟩
noncomputable def memoTM (k : Nat) (_ : List AV) : List Row := match k with
  | 0 => tab0
  | 1 => [faceRow]
  | _ => []
abbrev hook0 : Hook := ⟨lookN sumL, lookN extL, fun _ _ => [], noPrim⟩
noncomputable abbrev hookA : Hook := ⟨lookN sumLA, lookN extL, memoT, noPrim⟩
noncomputable abbrev hookM : Hook := ⟨lookN sumLM, lookN extL, memoTM, noPrim⟩
def key0 : Key := ⟨.d0, .d0, .d1, .d0, .d0⟩
def key4 : Key := ⟨.d0, .d0, .d0, .d0, .d4⟩
def spaceZ : List Int := [0, 0, 0, 0, 0, 0, 0, 0, 0, 1, 1, 1, 1, 1, 0, 0, 0, 0, 0, 0, 0, 0, 0, 0, 0, 0, 0, 0, 0, 0, 0, 0, 1, 0, 0, 0, 0, 0, 0, 0, 0, 0, 0, 0, 0, 0, 0, 0, 0, 0, 0, 0, 0, 0, 0, 0, 0, 0, 0, 0, 0, 0, 0, 0, 0, 0, 0, 0, 0, 0, 0, 0, 0, 0, 0, 0, 0, 0, 0, 0, 0, 0, 0, 0, 0, 0, 0, 0, 0, 0, 0, 0, 0, 0, 0, 0, 0, 0, 0, 0, 0, 0, 0, 0, 0, 0, 0, 0, 0, 0, 0, 0, 0, 0, 0, 0, 0, 0, 0, 0, 0, 0, 0, 0, 0, 0, 0, 0, 0, 0, 0, 0, 0, 0, 0, 0, 0, 0, 0, 0, 0, 0, 0, 0, 0, 0, 0, 0, 0, 0, 0, 0, 0, 0, 0, 0, 0, 0, 0, 0, 0, 0, 0, 0, 0, 0, 0, 0, 0, 0, 0, 0, 0, 0, 0, 0, 0, 0, 0, 0, 0, 0, 0, 0, 0, 0, 0, 0, 0, 0, 0, 0, 0, 0, 0, 0, 0, 0, 0, 0, 0, 0, 0, 0, 0, 0, 0, 0, 0, 0, 0, 0, 0, 0, 0, 0, 0, 0, 0, 0, 0, 0, 0, 0, 0, 0, 0, 0, 0, 0, 0, 0, 0, 0, 0, 0, 0, 0, 0, 0, 0, 0, 0, 0, 0, 0, 0, 0, 0, 0, 0, 0, 0, 0, 0, 0]
def laidL : List (Nat × AObj) := [(1, .fixed 0 (spaceZ.map fun z => AV.int .u8 z))]
def tot (_ : Nat) : Nat := 256
end Go.Proofs.YtckbhajndplkiaaGreatDoor
