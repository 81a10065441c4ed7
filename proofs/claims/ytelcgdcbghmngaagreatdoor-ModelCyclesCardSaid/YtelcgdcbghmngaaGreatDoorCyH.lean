/- The functions of this program that the evaluator takes by a contract, and what it knows at the start. No conditions. -/
import Derived.Test.YtelcgdcbghmngaaGreatDoorVH
import Derived.Test.YtelcgdcbghmngaaGreatDoorSh
import Derived.KernelRfl
namespace Go.Proofs.YtelcgdcbghmngaaGreatDoor
open Go.VM
def extL : List (Nat × Nat) := [(330, 4), (343, 5), (376, 1), (350, 2), (275, 3), (394, 6)]
def sumL : List (Nat × Nat) := [(272, 1), (318, 1), (196, 2)]
def sumLA : List (Nat × Nat) := [(116, 4), (272, 1), (318, 1), (196, 2)]
def sumLM : List (Nat × Nat) := [(7, 3), (8, 5), (116, 4), (272, 1), (318, 1), (196, 2)]
def tab0 : List Row := [
  ⟨[.str 0 0, .str 2 25647], .tup [.str 1 100, .int .i64 0], []⟩,
  ⟨[.str 0 0, .str 2 26159], .tup [.str 1 102, .int .i64 0], []⟩,
  ⟨[.str 0 0, .str 2 27951], .tup [.str 1 109, .int .i64 0], []⟩,
  ⟨[.str 0 0, .str 1 47], .tup [.str 0 0, .int .i64 0], []⟩,
  ⟨[.str 0 0, .str 2 28975], .tup [.str 1 113, .int .i64 0], []⟩,
  ⟨[.str 0 0, .str 4 1680827439], .tup [.str 3 6565732, .int .i64 0], []⟩,
  ⟨[.str 0 0, .str 6 110154707067951], .tup [.str 5 430291824484, .int .i64 0], []⟩,
  ⟨[.str 0 0, .str 5 435644493359], .tup [.str 4 1701736302, .int .i64 0], []⟩,
  ⟨[.str 0 0, .str 8 7219098882405262383], .tup [.str 7 28199605009395556, .int .i64 0], []⟩,
  ⟨[.str 0 0, .str 1 100], .tup [.str 1 100, .int .i64 0], []⟩,
  ⟨[.str 0 0, .str 2 25903], .tup [.str 1 101, .int .i64 0], []⟩,
  ⟨[.str 0 0, .str 10 473110864357311275557935], .tup [.str 9 1848089313895747170148, .int .i64 0], []⟩,
  ⟨[.str 0 0, .str 12 37814463822590343266910037039], .tup [.str 11 147712749306993528386367332, .int .i64 0], []⟩,
  ⟨[.str 0 0, .str 1 101], .tup [.str 1 101, .int .i64 0], []⟩,
  ⟨[.str 0 0, .str 10 577002926980443470259247], .tup [.str 9 2253917683517357305700, .int .i64 0], []⟩,
  ⟨[.str 0 0, .str 8 8804365951239676975], .tup [.str 7 34392054497029988, .int .i64 0], []⟩,
  ⟨[.str 0 0, .str 6 134343962879023], .tup [.str 5 524781104996, .int .i64 0], []⟩]
def memoT (k : Nat) : List Row := match k with
  | 0 => tab0
  | _ => []
def faceRow : Row := ⟨[], .func (.func 16) [] [.ptr ⟨.d3, .d0, .d0, .d0, .d4⟩ 0, .ptr ⟨.d5, .d0, .d3, .d0, .d4⟩ 0], [
  (⟨.d3, .d0, .d0, .d0, .d4⟩, .cells 29 [.ptr ⟨.d2, .d0, .d0, .d0, .d4⟩ 0] false 0),
  (⟨.d2, .d0, .d0, .d0, .d4⟩, .cells 59 [.map ⟨.d0, .d0, .d0, .d0, .d4⟩, .map ⟨.d1, .d0, .d0, .d0, .d4⟩, .func (.func 25) [] [], .int .i64 0] false 0),
  (⟨.d0, .d0, .d0, .d0, .d4⟩, .map [(.str 1 116, .agg [.nilSlice], 0)] 1),
  (⟨.d1, .d0, .d0, .d0, .d4⟩, .map [(.int .i64 1, .ptr ⟨.d4, .d0, .d3, .d0, .d4⟩ 0, 0)] 1),
  (⟨.d4, .d0, .d3, .d0, .d4⟩, .cells 183 [.ptr ⟨.d3, .d7, .d2, .d0, .d4⟩ 0, .ptr ⟨.d0, .d0, .d3, .d0, .d4⟩ 0, .ptr ⟨.d6, .d7, .d2, .d0, .d4⟩ 0, .nilSlice, .nilSlice] false 0),
  (⟨.d3, .d7, .d2, .d0, .d4⟩, .cells 263 [.slice ⟨.d2, .d7, .d2, .d0, .d4⟩ 0 1 (.more 4), .int .i64 0, .int .i64 20000, .int .i64 0, .nilSlice, .bool false, .str 0 0, .float .f64 0, .bool false, .str 0 0, .float .f64 0, .bool false, .str 0 0, .float .f64 0, .bool false, .str 0 0, .float .f64 0, .bool false, .str 0 0, .float .f64 0, .bool false, .str 0 0, .float .f64 0, .bool false, .str 0 0, .float .f64 0, .bool false, .str 0 0, .float .f64 0, .bool false, .str 0 0, .float .f64 0, .bool false, .str 0 0, .float .f64 0, .bool false, .str 0 0, .float .f64 0, .bool false, .str 0 0, .float .f64 0, .bool false, .str 0 0, .float .f64 0, .bool false, .str 0 0, .float .f64 0, .bool false, .str 0 0, .float .f64 0, .bool false, .str 0 0, .float .f64 0, .bool false, .str 0 0, .float .f64 0, .bool false, .str 0 0, .float .f64 0, .bool false, .str 0 0, .float .f64 0, .bool false, .str 0 0, .float .f64 0, .bool false, .str 0 0, .float .f64 0, .bool false, .str 0 0, .float .f64 0, .bool false, .str 0 0, .float .f64 0, .bool false, .str 0 0, .float .f64 0, .bool false, .str 0 0, .float .f64 0, .bool false, .str 0 0, .float .f64 0, .bool false, .str 0 0, .float .f64 0, .bool false, .str 0 0, .float .f64 0, .bool false, .str 0 0, .float .f64 0, .bool false, .str 0 0, .float .f64 0, .bool false, .str 0 0, .float .f64 0, .bool false, .str 0 0, .float .f64 0, .bool false, .str 0 0, .float .f64 0, .bool false, .str 0 0, .float .f64 0, .bool false, .str 0 0, .float .f64 0, .bool false, .str 0 0, .float .f64 0, .bool false, .str 0 0, .float .f64 0, .bool false, .str 0 0, .float .f64 0, .bool false, .str 0 0, .float .f64 0, .bool false, .str 0 0, .float .f64 0, .bool false, .str 0 0, .float .f64 0, .bool false, .str 0 0, .float .f64 0, .bool false, .str 0 0, .float .f64 0, .bool false, .str 0 0, .float .f64 0, .bool false, .str 0 0, .float .f64 0, .bool false, .str 0 0, .float .f64 0, .bool false, .str 0 0, .float .f64 0, .bool false, .str 0 0, .float .f64 0, .bool false, .str 0 0, .float .f64 0, .bool false, .str 0 0, .float .f64 0, .bool false, .str 0 0, .float .f64 0, .bool false, .str 0 0, .float .f64 0, .bool false, .str 0 0, .float .f64 0, .bool false, .str 0 0, .float .f64 0, .bool false, .str 0 0, .float .f64 0, .bool false, .str 0 0, .float .f64 0, .bool false, .str 0 0, .float .f64 0, .bool false, .str 0 0, .float .f64 0, .bool false, .str 0 0, .float .f64 0, .bool false, .str 0 0, .float .f64 0, .bool false, .str 0 0, .float .f64 0, .bool false, .str 0 0, .float .f64 0, .bool false, .str 0 0, .float .f64 0, .bool false, .str 0 0, .float .f64 0, .int .i64 0, .int .i64 0, .str 0 0, .str 0 0, .int .i64 0, .int .i64 0, .int .i64 0, .int .i64 0, .str 0 0, .str 0 0, .int .i64 0, .str 0 0] false 0),
  (⟨.d2, .d7, .d2, .d0, .d4⟩, .cells 176 [.int .i64 0, .int .i64 0, .float .f64 0, .str 0 0] true 0),
  (⟨.d0, .d0, .d3, .d0, .d4⟩, .cells 266 [.nilSlice] false 0),
  (⟨.d6, .d7, .d2, .d0, .d4⟩, .cells 134 [.ptr ⟨.d5, .d7, .d2, .d0, .d4⟩ 0, .ptr ⟨.d5, .d7, .d2, .d0, .d4⟩ 0, .nilPtr, .nilPtr, .nilPtr, .nilPtr, .nilPtr, .nilPtr, .nilPtr, .nilPtr, .int .i64 0] false 0),
  (⟨.d5, .d7, .d2, .d0, .d4⟩, .cells 142 [.int .i64 1, .int .i64 493, .str 0 0, .map ⟨.d4, .d7, .d2, .d0, .d4⟩, .nilPtr, .str 0 0] false 0),
  (⟨.d4, .d7, .d2, .d0, .d4⟩, .map [] 0),
  (⟨.d5, .d0, .d3, .d0, .d4⟩, .cells 37 [.int .i64 0, .int .i64 0, .int .i64 1, .str 0 0, .nilSlice, .nilSlice, .int .i64 0, .int .i64 0, .int .i64 0, .int .i64 0, .str 0 0, .nilSlice, .int .i64 0, .int .i64 0] false 0)]⟩
def memoTM (k : Nat) : List Row := match k with
  | 0 => tab0
  | 1 => [faceRow]
  | _ => []
abbrev hook0 : Hook := ⟨lookN sumL, lookN extL, fun _ => []⟩
abbrev hookA : Hook := ⟨lookN sumLA, lookN extL, memoT⟩
abbrev hookM : Hook := ⟨lookN sumLM, lookN extL, memoTM⟩
def key0 : Key := ⟨.d0, .d0, .d1, .d0, .d0⟩
def key4 : Key := ⟨.d0, .d0, .d0, .d0, .d4⟩
def spaceZ : List Int := [0, 0, 0, 0, 0, 0, 0, 0, 0, 1, 1, 1, 1, 1, 0, 0, 0, 0, 0, 0, 0, 0, 0, 0, 0, 0, 0, 0, 0, 0, 0, 0, 1, 0, 0, 0, 0, 0, 0, 0, 0, 0, 0, 0, 0, 0, 0, 0, 0, 0, 0, 0, 0, 0, 0, 0, 0, 0, 0, 0, 0, 0, 0, 0, 0, 0, 0, 0, 0, 0, 0, 0, 0, 0, 0, 0, 0, 0, 0, 0, 0, 0, 0, 0, 0, 0, 0, 0, 0, 0, 0, 0, 0, 0, 0, 0, 0, 0, 0, 0, 0, 0, 0, 0, 0, 0, 0, 0, 0, 0, 0, 0, 0, 0, 0, 0, 0, 0, 0, 0, 0, 0, 0, 0, 0, 0, 0, 0, 0, 0, 0, 0, 0, 0, 0, 0, 0, 0, 0, 0, 0, 0, 0, 0, 0, 0, 0, 0, 0, 0, 0, 0, 0, 0, 0, 0, 0, 0, 0, 0, 0, 0, 0, 0, 0, 0, 0, 0, 0, 0, 0, 0, 0, 0, 0, 0, 0, 0, 0, 0, 0, 0, 0, 0, 0, 0, 0, 0, 0, 0, 0, 0, 0, 0, 0, 0, 0, 0, 0, 0, 0, 0, 0, 0, 0, 0, 0, 0, 0, 0, 0, 0, 0, 0, 0, 0, 0, 0, 0, 0, 0, 0, 0, 0, 0, 0, 0, 0, 0, 0, 0, 0, 0, 0, 0, 0, 0, 0, 0, 0, 0, 0, 0, 0, 0, 0, 0, 0, 0, 0, 0, 0, 0, 0, 0, 0]
def laidL : List (Nat × AObj) := [(1, .fixed 0 (spaceZ.map fun z => AV.int .u8 z))]
def tot (_ : Nat) : Nat := 256
end Go.Proofs.YtelcgdcbghmngaaGreatDoor
