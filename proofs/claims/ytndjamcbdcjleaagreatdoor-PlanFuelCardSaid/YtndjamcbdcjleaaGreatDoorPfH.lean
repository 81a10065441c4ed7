/- The functions of this program that the evaluator takes by a contract, and what it knows at the start. No conditions. -/
import Derived.Test.YtndjamcbdcjleaaGreatDoorVH
import Derived.Test.YtndjamcbdcjleaaGreatDoorSh
import Derived.KernelRfl
namespace Go.Proofs.YtndjamcbdcjleaaGreatDoor
open Go.VM
def extL : List (Nat × Nat) := [(252, 4), (236, 5), (257, 1), (222, 2), (235, 3), (290, 6)]
def sumL : List (Nat × Nat) := [(114, 1), (172, 1), (77, 2)]
def sumLA : List (Nat × Nat) := [(114, 1), (172, 1), (77, 2)]
def sumLM : List (Nat × Nat) := [(6, 3), (13, 4), (114, 1), (172, 1), (77, 2)]
def memoT (_ : Nat) (_ : List AV) : List Row := []
def faceRow0 : Row := ⟨[.str 58 23282453275823816655337068807525704658610614059964099492254780380889183087034366038683375309450088178332988282961249950525911806588956406374], .tup [.agg [.int .i64 1, .str 0 0, .float .f64 0, .slice ⟨.d3, .d4, .d3, .d1, .d4⟩ 0 1 (.more 5), .int .i64 0], .int .i64 0, .int .i64 0], [
  (⟨.d3, .d4, .d3, .d1, .d4⟩, .cells 51 [.int .i64 2, .str 0 0, .float .f64 0, .slice ⟨.d7, .d3, .d3, .d1, .d4⟩ 0 2 (.more 5), .int .i64 0] true 0),
  (⟨.d7, .d3, .d3, .d1, .d4⟩, .cells 51 [.int .i64 14, .str 0 0, .float .f64 0, .nilSlice, .int .i64 0, .int .i64 4, .str 0 0, .float .f64 0, .slice ⟨.d5, .d3, .d3, .d1, .d4⟩ 0 1 (.is 1), .int .i64 9] true 0),
  (⟨.d5, .d3, .d3, .d1, .d4⟩, .cells 51 [.int .i64 8, .str 0 0, .float .f64 0, .slice ⟨.d1, .d3, .d3, .d1, .d4⟩ 0 2 (.more 5), .int .i64 13] false 0),
  (⟨.d1, .d3, .d3, .d1, .d4⟩, .cells 51 [.int .i64 9, .str 1 105, .float .f64 0, .slice ⟨.d4, .d0, .d1, .d1, .d4⟩ 0 1 (.is 1), .int .i64 15, .int .i64 11, .str 0 0, .float .f64 0, .slice ⟨.d7, .d2, .d3, .d1, .d4⟩ 0 2 (.is 2), .int .i64 26] true 0),
  (⟨.d4, .d0, .d1, .d1, .d4⟩, .cells 51 [.int .i64 15, .str 0 0, .float .f64 0, .nilSlice, .int .i64 23] false 0),
  (⟨.d7, .d2, .d3, .d1, .d4⟩, .cells 51 [.int .i64 18, .str 1 60, .float .f64 0, .slice ⟨.d1, .d1, .d2, .d1, .d4⟩ 0 2 (.is 2), .int .i64 34, .int .i64 8, .str 0 0, .float .f64 0, .slice ⟨.d3, .d2, .d3, .d1, .d4⟩ 0 1 (.more 5), .int .i64 38] false 0),
  (⟨.d1, .d1, .d2, .d1, .d4⟩, .cells 51 [.int .i64 14, .str 1 105, .float .f64 0, .nilSlice, .int .i64 32, .int .i64 15, .str 0 0, .float .f64 0, .nilSlice, .int .i64 36] false 0),
  (⟨.d3, .d2, .d3, .d1, .d4⟩, .cells 51 [.int .i64 9, .str 1 105, .float .f64 0, .slice ⟨.d7, .d1, .d3, .d1, .d4⟩ 0 1 (.is 1), .int .i64 40] true 0),
  (⟨.d7, .d1, .d3, .d1, .d4⟩, .cells 51 [.int .i64 18, .str 1 43, .float .f64 0, .slice ⟨.d6, .d0, .d3, .d1, .d4⟩ 0 2 (.is 2), .int .i64 50] false 0),
  (⟨.d6, .d0, .d3, .d1, .d4⟩, .cells 51 [.int .i64 14, .str 1 105, .float .f64 0, .nilSlice, .int .i64 48, .int .i64 15, .str 0 0, .float .f64 4607182418800017408, .nilSlice, .int .i64 52] false 0)]⟩
def faceRow1 : Row := ⟨[.str 58 23282453275823816655337068807525704658610614059964099989578016790675825242416614185504215409906238975680705723425226843685408819122331939430], .tup [.agg [.int .i64 1, .str 0 0, .float .f64 0, .slice ⟨.d3, .d4, .d3, .d1, .d4⟩ 0 1 (.more 5), .int .i64 0], .int .i64 0, .int .i64 0], [
  (⟨.d3, .d4, .d3, .d1, .d4⟩, .cells 51 [.int .i64 2, .str 0 0, .float .f64 0, .slice ⟨.d7, .d3, .d3, .d1, .d4⟩ 0 2 (.more 5), .int .i64 0] true 0),
  (⟨.d7, .d3, .d3, .d1, .d4⟩, .cells 51 [.int .i64 14, .str 0 0, .float .f64 0, .nilSlice, .int .i64 0, .int .i64 4, .str 0 0, .float .f64 0, .slice ⟨.d5, .d3, .d3, .d1, .d4⟩ 0 1 (.is 1), .int .i64 9] true 0),
  (⟨.d5, .d3, .d3, .d1, .d4⟩, .cells 51 [.int .i64 8, .str 0 0, .float .f64 0, .slice ⟨.d1, .d3, .d3, .d1, .d4⟩ 0 2 (.more 5), .int .i64 13] false 0),
  (⟨.d1, .d3, .d3, .d1, .d4⟩, .cells 51 [.int .i64 9, .str 1 105, .float .f64 0, .slice ⟨.d4, .d0, .d1, .d1, .d4⟩ 0 1 (.is 1), .int .i64 15, .int .i64 11, .str 0 0, .float .f64 0, .slice ⟨.d7, .d2, .d3, .d1, .d4⟩ 0 2 (.is 2), .int .i64 26] true 0),
  (⟨.d4, .d0, .d1, .d1, .d4⟩, .cells 51 [.int .i64 15, .str 0 0, .float .f64 0, .nilSlice, .int .i64 23] false 0),
  (⟨.d7, .d2, .d3, .d1, .d4⟩, .cells 51 [.int .i64 18, .str 1 60, .float .f64 0, .slice ⟨.d1, .d1, .d2, .d1, .d4⟩ 0 2 (.is 2), .int .i64 34, .int .i64 8, .str 0 0, .float .f64 0, .slice ⟨.d3, .d2, .d3, .d1, .d4⟩ 0 1 (.more 5), .int .i64 38] false 0),
  (⟨.d1, .d1, .d2, .d1, .d4⟩, .cells 51 [.int .i64 14, .str 1 105, .float .f64 0, .nilSlice, .int .i64 32, .int .i64 15, .str 0 0, .float .f64 4607182418800017408, .nilSlice, .int .i64 36] false 0),
  (⟨.d3, .d2, .d3, .d1, .d4⟩, .cells 51 [.int .i64 9, .str 1 105, .float .f64 0, .slice ⟨.d7, .d1, .d3, .d1, .d4⟩ 0 1 (.is 1), .int .i64 40] true 0),
  (⟨.d7, .d1, .d3, .d1, .d4⟩, .cells 51 [.int .i64 18, .str 1 43, .float .f64 0, .slice ⟨.d6, .d0, .d3, .d1, .d4⟩ 0 2 (.is 2), .int .i64 50] false 0),
  (⟨.d6, .d0, .d3, .d1, .d4⟩, .cells 51 [.int .i64 14, .str 1 105, .float .f64 0, .nilSlice, .int .i64 48, .int .i64 15, .str 0 0, .float .f64 4607182418800017408, .nilSlice, .int .i64 52] false 0)]⟩
def faceRow2 : Row := ⟨[.str 58 23282453275823816655337068807525704658610614059964100486901253200462467397798862332325055510362389773028423163889203736844905831655707472486], .tup [.agg [.int .i64 1, .str 0 0, .float .f64 0, .slice ⟨.d3, .d4, .d3, .d1, .d4⟩ 0 1 (.more 5), .int .i64 0], .int .i64 0, .int .i64 0], [
  (⟨.d3, .d4, .d3, .d1, .d4⟩, .cells 51 [.int .i64 2, .str 0 0, .float .f64 0, .slice ⟨.d7, .d3, .d3, .d1, .d4⟩ 0 2 (.more 5), .int .i64 0] true 0),
  (⟨.d7, .d3, .d3, .d1, .d4⟩, .cells 51 [.int .i64 14, .str 0 0, .float .f64 0, .nilSlice, .int .i64 0, .int .i64 4, .str 0 0, .float .f64 0, .slice ⟨.d5, .d3, .d3, .d1, .d4⟩ 0 1 (.is 1), .int .i64 9] true 0),
  (⟨.d5, .d3, .d3, .d1, .d4⟩, .cells 51 [.int .i64 8, .str 0 0, .float .f64 0, .slice ⟨.d1, .d3, .d3, .d1, .d4⟩ 0 2 (.more 5), .int .i64 13] false 0),
  (⟨.d1, .d3, .d3, .d1, .d4⟩, .cells 51 [.int .i64 9, .str 1 105, .float .f64 0, .slice ⟨.d4, .d0, .d1, .d1, .d4⟩ 0 1 (.is 1), .int .i64 15, .int .i64 11, .str 0 0, .float .f64 0, .slice ⟨.d7, .d2, .d3, .d1, .d4⟩ 0 2 (.is 2), .int .i64 26] true 0),
  (⟨.d4, .d0, .d1, .d1, .d4⟩, .cells 51 [.int .i64 15, .str 0 0, .float .f64 0, .nilSlice, .int .i64 23] false 0),
  (⟨.d7, .d2, .d3, .d1, .d4⟩, .cells 51 [.int .i64 18, .str 1 60, .float .f64 0, .slice ⟨.d1, .d1, .d2, .d1, .d4⟩ 0 2 (.is 2), .int .i64 34, .int .i64 8, .str 0 0, .float .f64 0, .slice ⟨.d3, .d2, .d3, .d1, .d4⟩ 0 1 (.more 5), .int .i64 38] false 0),
  (⟨.d1, .d1, .d2, .d1, .d4⟩, .cells 51 [.int .i64 14, .str 1 105, .float .f64 0, .nilSlice, .int .i64 32, .int .i64 15, .str 0 0, .float .f64 4611686018427387904, .nilSlice, .int .i64 36] false 0),
  (⟨.d3, .d2, .d3, .d1, .d4⟩, .cells 51 [.int .i64 9, .str 1 105, .float .f64 0, .slice ⟨.d7, .d1, .d3, .d1, .d4⟩ 0 1 (.is 1), .int .i64 40] true 0),
  (⟨.d7, .d1, .d3, .d1, .d4⟩, .cells 51 [.int .i64 18, .str 1 43, .float .f64 0, .slice ⟨.d6, .d0, .d3, .d1, .d4⟩ 0 2 (.is 2), .int .i64 50] false 0),
  (⟨.d6, .d0, .d3, .d1, .d4⟩, .cells 51 [.int .i64 14, .str 1 105, .float .f64 0, .nilSlice, .int .i64 48, .int .i64 15, .str 0 0, .float .f64 4607182418800017408, .nilSlice, .int .i64 52] false 0)]⟩
def faceRow3 : Row := ⟨[.str 58 23282453275823816655337068807525704658610614059964100984224489610249109553181110479145895610818540570376140604353180630004402844189083005542], .tup [.agg [.int .i64 1, .str 0 0, .float .f64 0, .slice ⟨.d3, .d4, .d3, .d1, .d4⟩ 0 1 (.more 5), .int .i64 0], .int .i64 0, .int .i64 0], [
  (⟨.d3, .d4, .d3, .d1, .d4⟩, .cells 51 [.int .i64 2, .str 0 0, .float .f64 0, .slice ⟨.d7, .d3, .d3, .d1, .d4⟩ 0 2 (.more 5), .int .i64 0] true 0),
  (⟨.d7, .d3, .d3, .d1, .d4⟩, .cells 51 [.int .i64 14, .str 0 0, .float .f64 0, .nilSlice, .int .i64 0, .int .i64 4, .str 0 0, .float .f64 0, .slice ⟨.d5, .d3, .d3, .d1, .d4⟩ 0 1 (.is 1), .int .i64 9] true 0),
  (⟨.d5, .d3, .d3, .d1, .d4⟩, .cells 51 [.int .i64 8, .str 0 0, .float .f64 0, .slice ⟨.d1, .d3, .d3, .d1, .d4⟩ 0 2 (.more 5), .int .i64 13] false 0),
  (⟨.d1, .d3, .d3, .d1, .d4⟩, .cells 51 [.int .i64 9, .str 1 105, .float .f64 0, .slice ⟨.d4, .d0, .d1, .d1, .d4⟩ 0 1 (.is 1), .int .i64 15, .int .i64 11, .str 0 0, .float .f64 0, .slice ⟨.d7, .d2, .d3, .d1, .d4⟩ 0 2 (.is 2), .int .i64 26] true 0),
  (⟨.d4, .d0, .d1, .d1, .d4⟩, .cells 51 [.int .i64 15, .str 0 0, .float .f64 0, .nilSlice, .int .i64 23] false 0),
  (⟨.d7, .d2, .d3, .d1, .d4⟩, .cells 51 [.int .i64 18, .str 1 60, .float .f64 0, .slice ⟨.d1, .d1, .d2, .d1, .d4⟩ 0 2 (.is 2), .int .i64 34, .int .i64 8, .str 0 0, .float .f64 0, .slice ⟨.d3, .d2, .d3, .d1, .d4⟩ 0 1 (.more 5), .int .i64 38] false 0),
  (⟨.d1, .d1, .d2, .d1, .d4⟩, .cells 51 [.int .i64 14, .str 1 105, .float .f64 0, .nilSlice, .int .i64 32, .int .i64 15, .str 0 0, .float .f64 4613937818241073152, .nilSlice, .int .i64 36] false 0),
  (⟨.d3, .d2, .d3, .d1, .d4⟩, .cells 51 [.int .i64 9, .str 1 105, .float .f64 0, .slice ⟨.d7, .d1, .d3, .d1, .d4⟩ 0 1 (.is 1), .int .i64 40] true 0),
  (⟨.d7, .d1, .d3, .d1, .d4⟩, .cells 51 [.int .i64 18, .str 1 43, .float .f64 0, .slice ⟨.d6, .d0, .d3, .d1, .d4⟩ 0 2 (.is 2), .int .i64 50] false 0),
  (⟨.d6, .d0, .d3, .d1, .d4⟩, .cells 51 [.int .i64 14, .str 1 105, .float .f64 0, .nilSlice, .int .i64 48, .int .i64 15, .str 0 0, .float .f64 4607182418800017408, .nilSlice, .int .i64 52] false 0)]⟩
def faceRow4 : Row := ⟨[.str 58 23282453275823816655337068807525704658610614059964101481547726020035751708563358625966735711274691367723858044817157523163899856722458538598], .tup [.agg [.int .i64 1, .str 0 0, .float .f64 0, .slice ⟨.d3, .d4, .d3, .d1, .d4⟩ 0 1 (.more 5), .int .i64 0], .int .i64 0, .int .i64 0], [
  (⟨.d3, .d4, .d3, .d1, .d4⟩, .cells 51 [.int .i64 2, .str 0 0, .float .f64 0, .slice ⟨.d7, .d3, .d3, .d1, .d4⟩ 0 2 (.more 5), .int .i64 0] true 0),
  (⟨.d7, .d3, .d3, .d1, .d4⟩, .cells 51 [.int .i64 14, .str 0 0, .float .f64 0, .nilSlice, .int .i64 0, .int .i64 4, .str 0 0, .float .f64 0, .slice ⟨.d5, .d3, .d3, .d1, .d4⟩ 0 1 (.is 1), .int .i64 9] true 0),
  (⟨.d5, .d3, .d3, .d1, .d4⟩, .cells 51 [.int .i64 8, .str 0 0, .float .f64 0, .slice ⟨.d1, .d3, .d3, .d1, .d4⟩ 0 2 (.more 5), .int .i64 13] false 0),
  (⟨.d1, .d3, .d3, .d1, .d4⟩, .cells 51 [.int .i64 9, .str 1 105, .float .f64 0, .slice ⟨.d4, .d0, .d1, .d1, .d4⟩ 0 1 (.is 1), .int .i64 15, .int .i64 11, .str 0 0, .float .f64 0, .slice ⟨.d7, .d2, .d3, .d1, .d4⟩ 0 2 (.is 2), .int .i64 26] true 0),
  (⟨.d4, .d0, .d1, .d1, .d4⟩, .cells 51 [.int .i64 15, .str 0 0, .float .f64 0, .nilSlice, .int .i64 23] false 0),
  (⟨.d7, .d2, .d3, .d1, .d4⟩, .cells 51 [.int .i64 18, .str 1 60, .float .f64 0, .slice ⟨.d1, .d1, .d2, .d1, .d4⟩ 0 2 (.is 2), .int .i64 34, .int .i64 8, .str 0 0, .float .f64 0, .slice ⟨.d3, .d2, .d3, .d1, .d4⟩ 0 1 (.more 5), .int .i64 38] false 0),
  (⟨.d1, .d1, .d2, .d1, .d4⟩, .cells 51 [.int .i64 14, .str 1 105, .float .f64 0, .nilSlice, .int .i64 32, .int .i64 15, .str 0 0, .float .f64 4616189618054758400, .nilSlice, .int .i64 36] false 0),
  (⟨.d3, .d2, .d3, .d1, .d4⟩, .cells 51 [.int .i64 9, .str 1 105, .float .f64 0, .slice ⟨.d7, .d1, .d3, .d1, .d4⟩ 0 1 (.is 1), .int .i64 40] true 0),
  (⟨.d7, .d1, .d3, .d1, .d4⟩, .cells 51 [.int .i64 18, .str 1 43, .float .f64 0, .slice ⟨.d6, .d0, .d3, .d1, .d4⟩ 0 2 (.is 2), .int .i64 50] false 0),
  (⟨.d6, .d0, .d3, .d1, .d4⟩, .cells 51 [.int .i64 14, .str 1 105, .float .f64 0, .nilSlice, .int .i64 48, .int .i64 15, .str 0 0, .float .f64 4607182418800017408, .nilSlice, .int .i64 52] false 0)]⟩
def faceRow5 : Row := ⟨[.str 58 23282453275823816655337068807525704658610614059964101978870962429822393863945606772787575811730842165071575485281134416323396869255834071654], .tup [.agg [.int .i64 1, .str 0 0, .float .f64 0, .slice ⟨.d3, .d4, .d3, .d1, .d4⟩ 0 1 (.more 5), .int .i64 0], .int .i64 0, .int .i64 0], [
  (⟨.d3, .d4, .d3, .d1, .d4⟩, .cells 51 [.int .i64 2, .str 0 0, .float .f64 0, .slice ⟨.d7, .d3, .d3, .d1, .d4⟩ 0 2 (.more 5), .int .i64 0] true 0),
  (⟨.d7, .d3, .d3, .d1, .d4⟩, .cells 51 [.int .i64 14, .str 0 0, .float .f64 0, .nilSlice, .int .i64 0, .int .i64 4, .str 0 0, .float .f64 0, .slice ⟨.d5, .d3, .d3, .d1, .d4⟩ 0 1 (.is 1), .int .i64 9] true 0),
  (⟨.d5, .d3, .d3, .d1, .d4⟩, .cells 51 [.int .i64 8, .str 0 0, .float .f64 0, .slice ⟨.d1, .d3, .d3, .d1, .d4⟩ 0 2 (.more 5), .int .i64 13] false 0),
  (⟨.d1, .d3, .d3, .d1, .d4⟩, .cells 51 [.int .i64 9, .str 1 105, .float .f64 0, .slice ⟨.d4, .d0, .d1, .d1, .d4⟩ 0 1 (.is 1), .int .i64 15, .int .i64 11, .str 0 0, .float .f64 0, .slice ⟨.d7, .d2, .d3, .d1, .d4⟩ 0 2 (.is 2), .int .i64 26] true 0),
  (⟨.d4, .d0, .d1, .d1, .d4⟩, .cells 51 [.int .i64 15, .str 0 0, .float .f64 0, .nilSlice, .int .i64 23] false 0),
  (⟨.d7, .d2, .d3, .d1, .d4⟩, .cells 51 [.int .i64 18, .str 1 60, .float .f64 0, .slice ⟨.d1, .d1, .d2, .d1, .d4⟩ 0 2 (.is 2), .int .i64 34, .int .i64 8, .str 0 0, .float .f64 0, .slice ⟨.d3, .d2, .d3, .d1, .d4⟩ 0 1 (.more 5), .int .i64 38] false 0),
  (⟨.d1, .d1, .d2, .d1, .d4⟩, .cells 51 [.int .i64 14, .str 1 105, .float .f64 0, .nilSlice, .int .i64 32, .int .i64 15, .str 0 0, .float .f64 4617315517961601024, .nilSlice, .int .i64 36] false 0),
  (⟨.d3, .d2, .d3, .d1, .d4⟩, .cells 51 [.int .i64 9, .str 1 105, .float .f64 0, .slice ⟨.d7, .d1, .d3, .d1, .d4⟩ 0 1 (.is 1), .int .i64 40] true 0),
  (⟨.d7, .d1, .d3, .d1, .d4⟩, .cells 51 [.int .i64 18, .str 1 43, .float .f64 0, .slice ⟨.d6, .d0, .d3, .d1, .d4⟩ 0 2 (.is 2), .int .i64 50] false 0),
  (⟨.d6, .d0, .d3, .d1, .d4⟩, .cells 51 [.int .i64 14, .str 1 105, .float .f64 0, .nilSlice, .int .i64 48, .int .i64 15, .str 0 0, .float .f64 4607182418800017408, .nilSlice, .int .i64 52] false 0)]⟩
def faceRow6 : Row := ⟨[.str 58 23282453275823816655337068807525704658610614059964102476194198839609036019327854919608415912186992962419292925745111309482893881789209604710], .tup [.agg [.int .i64 1, .str 0 0, .float .f64 0, .slice ⟨.d3, .d4, .d3, .d1, .d4⟩ 0 1 (.more 5), .int .i64 0], .int .i64 0, .int .i64 0], [
  (⟨.d3, .d4, .d3, .d1, .d4⟩, .cells 51 [.int .i64 2, .str 0 0, .float .f64 0, .slice ⟨.d7, .d3, .d3, .d1, .d4⟩ 0 2 (.more 5), .int .i64 0] true 0),
  (⟨.d7, .d3, .d3, .d1, .d4⟩, .cells 51 [.int .i64 14, .str 0 0, .float .f64 0, .nilSlice, .int .i64 0, .int .i64 4, .str 0 0, .float .f64 0, .slice ⟨.d5, .d3, .d3, .d1, .d4⟩ 0 1 (.is 1), .int .i64 9] true 0),
  (⟨.d5, .d3, .d3, .d1, .d4⟩, .cells 51 [.int .i64 8, .str 0 0, .float .f64 0, .slice ⟨.d1, .d3, .d3, .d1, .d4⟩ 0 2 (.more 5), .int .i64 13] false 0),
  (⟨.d1, .d3, .d3, .d1, .d4⟩, .cells 51 [.int .i64 9, .str 1 105, .float .f64 0, .slice ⟨.d4, .d0, .d1, .d1, .d4⟩ 0 1 (.is 1), .int .i64 15, .int .i64 11, .str 0 0, .float .f64 0, .slice ⟨.d7, .d2, .d3, .d1, .d4⟩ 0 2 (.is 2), .int .i64 26] true 0),
  (⟨.d4, .d0, .d1, .d1, .d4⟩, .cells 51 [.int .i64 15, .str 0 0, .float .f64 0, .nilSlice, .int .i64 23] false 0),
  (⟨.d7, .d2, .d3, .d1, .d4⟩, .cells 51 [.int .i64 18, .str 1 60, .float .f64 0, .slice ⟨.d1, .d1, .d2, .d1, .d4⟩ 0 2 (.is 2), .int .i64 34, .int .i64 8, .str 0 0, .float .f64 0, .slice ⟨.d3, .d2, .d3, .d1, .d4⟩ 0 1 (.more 5), .int .i64 38] false 0),
  (⟨.d1, .d1, .d2, .d1, .d4⟩, .cells 51 [.int .i64 14, .str 1 105, .float .f64 0, .nilSlice, .int .i64 32, .int .i64 15, .str 0 0, .float .f64 4618441417868443648, .nilSlice, .int .i64 36] false 0),
  (⟨.d3, .d2, .d3, .d1, .d4⟩, .cells 51 [.int .i64 9, .str 1 105, .float .f64 0, .slice ⟨.d7, .d1, .d3, .d1, .d4⟩ 0 1 (.is 1), .int .i64 40] true 0),
  (⟨.d7, .d1, .d3, .d1, .d4⟩, .cells 51 [.int .i64 18, .str 1 43, .float .f64 0, .slice ⟨.d6, .d0, .d3, .d1, .d4⟩ 0 2 (.is 2), .int .i64 50] false 0),
  (⟨.d6, .d0, .d3, .d1, .d4⟩, .cells 51 [.int .i64 14, .str 1 105, .float .f64 0, .nilSlice, .int .i64 48, .int .i64 15, .str 0 0, .float .f64 4607182418800017408, .nilSlice, .int .i64 52] false 0)]⟩
def faceRow7 : Row := ⟨[.str 58 23282453275823816655337068807525704658610614059964102973517435249395678174710103066429256012643143759767010366209088202642390894322585137766], .tup [.agg [.int .i64 1, .str 0 0, .float .f64 0, .slice ⟨.d3, .d4, .d3, .d1, .d4⟩ 0 1 (.more 5), .int .i64 0], .int .i64 0, .int .i64 0], [
  (⟨.d3, .d4, .d3, .d1, .d4⟩, .cells 51 [.int .i64 2, .str 0 0, .float .f64 0, .slice ⟨.d7, .d3, .d3, .d1, .d4⟩ 0 2 (.more 5), .int .i64 0] true 0),
  (⟨.d7, .d3, .d3, .d1, .d4⟩, .cells 51 [.int .i64 14, .str 0 0, .float .f64 0, .nilSlice, .int .i64 0, .int .i64 4, .str 0 0, .float .f64 0, .slice ⟨.d5, .d3, .d3, .d1, .d4⟩ 0 1 (.is 1), .int .i64 9] true 0),
  (⟨.d5, .d3, .d3, .d1, .d4⟩, .cells 51 [.int .i64 8, .str 0 0, .float .f64 0, .slice ⟨.d1, .d3, .d3, .d1, .d4⟩ 0 2 (.more 5), .int .i64 13] false 0),
  (⟨.d1, .d3, .d3, .d1, .d4⟩, .cells 51 [.int .i64 9, .str 1 105, .float .f64 0, .slice ⟨.d4, .d0, .d1, .d1, .d4⟩ 0 1 (.is 1), .int .i64 15, .int .i64 11, .str 0 0, .float .f64 0, .slice ⟨.d7, .d2, .d3, .d1, .d4⟩ 0 2 (.is 2), .int .i64 26] true 0),
  (⟨.d4, .d0, .d1, .d1, .d4⟩, .cells 51 [.int .i64 15, .str 0 0, .float .f64 0, .nilSlice, .int .i64 23] false 0),
  (⟨.d7, .d2, .d3, .d1, .d4⟩, .cells 51 [.int .i64 18, .str 1 60, .float .f64 0, .slice ⟨.d1, .d1, .d2, .d1, .d4⟩ 0 2 (.is 2), .int .i64 34, .int .i64 8, .str 0 0, .float .f64 0, .slice ⟨.d3, .d2, .d3, .d1, .d4⟩ 0 1 (.more 5), .int .i64 38] false 0),
  (⟨.d1, .d1, .d2, .d1, .d4⟩, .cells 51 [.int .i64 14, .str 1 105, .float .f64 0, .nilSlice, .int .i64 32, .int .i64 15, .str 0 0, .float .f64 4619567317775286272, .nilSlice, .int .i64 36] false 0),
  (⟨.d3, .d2, .d3, .d1, .d4⟩, .cells 51 [.int .i64 9, .str 1 105, .float .f64 0, .slice ⟨.d7, .d1, .d3, .d1, .d4⟩ 0 1 (.is 1), .int .i64 40] true 0),
  (⟨.d7, .d1, .d3, .d1, .d4⟩, .cells 51 [.int .i64 18, .str 1 43, .float .f64 0, .slice ⟨.d6, .d0, .d3, .d1, .d4⟩ 0 2 (.is 2), .int .i64 50] false 0),
  (⟨.d6, .d0, .d3, .d1, .d4⟩, .cells 51 [.int .i64 14, .str 1 105, .float .f64 0, .nilSlice, .int .i64 48, .int .i64 15, .str 0 0, .float .f64 4607182418800017408, .nilSlice, .int .i64 52] false 0)]⟩
def faceRow8 : Row := ⟨[.str 58 23282453275823816655337068807525704658610614059964103470840671659182320330092351213250096113099294557114727806673065095801887906855960670822], .tup [.agg [.int .i64 1, .str 0 0, .float .f64 0, .slice ⟨.d3, .d4, .d3, .d1, .d4⟩ 0 1 (.more 5), .int .i64 0], .int .i64 0, .int .i64 0], [
  (⟨.d3, .d4, .d3, .d1, .d4⟩, .cells 51 [.int .i64 2, .str 0 0, .float .f64 0, .slice ⟨.d7, .d3, .d3, .d1, .d4⟩ 0 2 (.more 5), .int .i64 0] true 0),
  (⟨.d7, .d3, .d3, .d1, .d4⟩, .cells 51 [.int .i64 14, .str 0 0, .float .f64 0, .nilSlice, .int .i64 0, .int .i64 4, .str 0 0, .float .f64 0, .slice ⟨.d5, .d3, .d3, .d1, .d4⟩ 0 1 (.is 1), .int .i64 9] true 0),
  (⟨.d5, .d3, .d3, .d1, .d4⟩, .cells 51 [.int .i64 8, .str 0 0, .float .f64 0, .slice ⟨.d1, .d3, .d3, .d1, .d4⟩ 0 2 (.more 5), .int .i64 13] false 0),
  (⟨.d1, .d3, .d3, .d1, .d4⟩, .cells 51 [.int .i64 9, .str 1 105, .float .f64 0, .slice ⟨.d4, .d0, .d1, .d1, .d4⟩ 0 1 (.is 1), .int .i64 15, .int .i64 11, .str 0 0, .float .f64 0, .slice ⟨.d7, .d2, .d3, .d1, .d4⟩ 0 2 (.is 2), .int .i64 26] true 0),
  (⟨.d4, .d0, .d1, .d1, .d4⟩, .cells 51 [.int .i64 15, .str 0 0, .float .f64 0, .nilSlice, .int .i64 23] false 0),
  (⟨.d7, .d2, .d3, .d1, .d4⟩, .cells 51 [.int .i64 18, .str 1 60, .float .f64 0, .slice ⟨.d1, .d1, .d2, .d1, .d4⟩ 0 2 (.is 2), .int .i64 34, .int .i64 8, .str 0 0, .float .f64 0, .slice ⟨.d3, .d2, .d3, .d1, .d4⟩ 0 1 (.more 5), .int .i64 38] false 0),
  (⟨.d1, .d1, .d2, .d1, .d4⟩, .cells 51 [.int .i64 14, .str 1 105, .float .f64 0, .nilSlice, .int .i64 32, .int .i64 15, .str 0 0, .float .f64 4620693217682128896, .nilSlice, .int .i64 36] false 0),
  (⟨.d3, .d2, .d3, .d1, .d4⟩, .cells 51 [.int .i64 9, .str 1 105, .float .f64 0, .slice ⟨.d7, .d1, .d3, .d1, .d4⟩ 0 1 (.is 1), .int .i64 40] true 0),
  (⟨.d7, .d1, .d3, .d1, .d4⟩, .cells 51 [.int .i64 18, .str 1 43, .float .f64 0, .slice ⟨.d6, .d0, .d3, .d1, .d4⟩ 0 2 (.is 2), .int .i64 50] false 0),
  (⟨.d6, .d0, .d3, .d1, .d4⟩, .cells 51 [.int .i64 14, .str 1 105, .float .f64 0, .nilSlice, .int .i64 48, .int .i64 15, .str 0 0, .float .f64 4607182418800017408, .nilSlice, .int .i64 52] false 0)]⟩
def faceRow9 : Row := ⟨[.str 58 23282453275823816655337068807525704658610614059964103968163908068968962485474599360070936213555445354462445247137041988961384919389336203878], .tup [.agg [.int .i64 1, .str 0 0, .float .f64 0, .slice ⟨.d3, .d4, .d3, .d1, .d4⟩ 0 1 (.more 5), .int .i64 0], .int .i64 0, .int .i64 0], [
  (⟨.d3, .d4, .d3, .d1, .d4⟩, .cells 51 [.int .i64 2, .str 0 0, .float .f64 0, .slice ⟨.d7, .d3, .d3, .d1, .d4⟩ 0 2 (.more 5), .int .i64 0] true 0),
  (⟨.d7, .d3, .d3, .d1, .d4⟩, .cells 51 [.int .i64 14, .str 0 0, .float .f64 0, .nilSlice, .int .i64 0, .int .i64 4, .str 0 0, .float .f64 0, .slice ⟨.d5, .d3, .d3, .d1, .d4⟩ 0 1 (.is 1), .int .i64 9] true 0),
  (⟨.d5, .d3, .d3, .d1, .d4⟩, .cells 51 [.int .i64 8, .str 0 0, .float .f64 0, .slice ⟨.d1, .d3, .d3, .d1, .d4⟩ 0 2 (.more 5), .int .i64 13] false 0),
  (⟨.d1, .d3, .d3, .d1, .d4⟩, .cells 51 [.int .i64 9, .str 1 105, .float .f64 0, .slice ⟨.d4, .d0, .d1, .d1, .d4⟩ 0 1 (.is 1), .int .i64 15, .int .i64 11, .str 0 0, .float .f64 0, .slice ⟨.d7, .d2, .d3, .d1, .d4⟩ 0 2 (.is 2), .int .i64 26] true 0),
  (⟨.d4, .d0, .d1, .d1, .d4⟩, .cells 51 [.int .i64 15, .str 0 0, .float .f64 0, .nilSlice, .int .i64 23] false 0),
  (⟨.d7, .d2, .d3, .d1, .d4⟩, .cells 51 [.int .i64 18, .str 1 60, .float .f64 0, .slice ⟨.d1, .d1, .d2, .d1, .d4⟩ 0 2 (.is 2), .int .i64 34, .int .i64 8, .str 0 0, .float .f64 0, .slice ⟨.d3, .d2, .d3, .d1, .d4⟩ 0 1 (.more 5), .int .i64 38] false 0),
  (⟨.d1, .d1, .d2, .d1, .d4⟩, .cells 51 [.int .i64 14, .str 1 105, .float .f64 0, .nilSlice, .int .i64 32, .int .i64 15, .str 0 0, .float .f64 4621256167635550208, .nilSlice, .int .i64 36] false 0),
  (⟨.d3, .d2, .d3, .d1, .d4⟩, .cells 51 [.int .i64 9, .str 1 105, .float .f64 0, .slice ⟨.d7, .d1, .d3, .d1, .d4⟩ 0 1 (.is 1), .int .i64 40] true 0),
  (⟨.d7, .d1, .d3, .d1, .d4⟩, .cells 51 [.int .i64 18, .str 1 43, .float .f64 0, .slice ⟨.d6, .d0, .d3, .d1, .d4⟩ 0 2 (.is 2), .int .i64 50] false 0),
  (⟨.d6, .d0, .d3, .d1, .d4⟩, .cells 51 [.int .i64 14, .str 1 105, .float .f64 0, .nilSlice, .int .i64 48, .int .i64 15, .str 0 0, .float .f64 4607182418800017408, .nilSlice, .int .i64 52] false 0)]⟩
def faceRow10 : Row := ⟨[.str 59 5960308038610897063766289614726580392604317199350809478417534391400807475661661216961992123640976976609899312476663180850888017525895628550758], .tup [.agg [.int .i64 1, .str 0 0, .float .f64 0, .slice ⟨.d3, .d4, .d3, .d1, .d4⟩ 0 1 (.more 5), .int .i64 0], .int .i64 0, .int .i64 0], [
  (⟨.d3, .d4, .d3, .d1, .d4⟩, .cells 51 [.int .i64 2, .str 0 0, .float .f64 0, .slice ⟨.d7, .d3, .d3, .d1, .d4⟩ 0 2 (.more 5), .int .i64 0] true 0),
  (⟨.d7, .d3, .d3, .d1, .d4⟩, .cells 51 [.int .i64 14, .str 0 0, .float .f64 0, .nilSlice, .int .i64 0, .int .i64 4, .str 0 0, .float .f64 0, .slice ⟨.d5, .d3, .d3, .d1, .d4⟩ 0 1 (.is 1), .int .i64 9] true 0),
  (⟨.d5, .d3, .d3, .d1, .d4⟩, .cells 51 [.int .i64 8, .str 0 0, .float .f64 0, .slice ⟨.d1, .d3, .d3, .d1, .d4⟩ 0 2 (.more 5), .int .i64 13] false 0),
  (⟨.d1, .d3, .d3, .d1, .d4⟩, .cells 51 [.int .i64 9, .str 1 105, .float .f64 0, .slice ⟨.d4, .d0, .d1, .d1, .d4⟩ 0 1 (.is 1), .int .i64 15, .int .i64 11, .str 0 0, .float .f64 0, .slice ⟨.d7, .d2, .d3, .d1, .d4⟩ 0 2 (.is 2), .int .i64 26] true 0),
  (⟨.d4, .d0, .d1, .d1, .d4⟩, .cells 51 [.int .i64 15, .str 0 0, .float .f64 0, .nilSlice, .int .i64 23] false 0),
  (⟨.d7, .d2, .d3, .d1, .d4⟩, .cells 51 [.int .i64 18, .str 1 60, .float .f64 0, .slice ⟨.d1, .d1, .d2, .d1, .d4⟩ 0 2 (.is 2), .int .i64 34, .int .i64 8, .str 0 0, .float .f64 0, .slice ⟨.d3, .d2, .d3, .d1, .d4⟩ 0 1 (.more 5), .int .i64 39] false 0),
  (⟨.d1, .d1, .d2, .d1, .d4⟩, .cells 51 [.int .i64 14, .str 1 105, .float .f64 0, .nilSlice, .int .i64 32, .int .i64 15, .str 0 0, .float .f64 4621819117588971520, .nilSlice, .int .i64 36] false 0),
  (⟨.d3, .d2, .d3, .d1, .d4⟩, .cells 51 [.int .i64 9, .str 1 105, .float .f64 0, .slice ⟨.d7, .d1, .d3, .d1, .d4⟩ 0 1 (.is 1), .int .i64 41] true 0),
  (⟨.d7, .d1, .d3, .d1, .d4⟩, .cells 51 [.int .i64 18, .str 1 43, .float .f64 0, .slice ⟨.d6, .d0, .d3, .d1, .d4⟩ 0 2 (.is 2), .int .i64 51] false 0),
  (⟨.d6, .d0, .d3, .d1, .d4⟩, .cells 51 [.int .i64 14, .str 1 105, .float .f64 0, .nilSlice, .int .i64 49, .int .i64 15, .str 0 0, .float .f64 4607182418800017408, .nilSlice, .int .i64 53] false 0)]⟩
def faceRow11 : Row := ⟨[.str 59 5960308038610897063766289614726580392604317199350809605732282912306187867439516742548127189357751580730914977235441265499719252734439765013094], .tup [.agg [.int .i64 1, .str 0 0, .float .f64 0, .slice ⟨.d3, .d4, .d3, .d1, .d4⟩ 0 1 (.more 5), .int .i64 0], .int .i64 0, .int .i64 0], [
  (⟨.d3, .d4, .d3, .d1, .d4⟩, .cells 51 [.int .i64 2, .str 0 0, .float .f64 0, .slice ⟨.d7, .d3, .d3, .d1, .d4⟩ 0 2 (.more 5), .int .i64 0] true 0),
  (⟨.d7, .d3, .d3, .d1, .d4⟩, .cells 51 [.int .i64 14, .str 0 0, .float .f64 0, .nilSlice, .int .i64 0, .int .i64 4, .str 0 0, .float .f64 0, .slice ⟨.d5, .d3, .d3, .d1, .d4⟩ 0 1 (.is 1), .int .i64 9] true 0),
  (⟨.d5, .d3, .d3, .d1, .d4⟩, .cells 51 [.int .i64 8, .str 0 0, .float .f64 0, .slice ⟨.d1, .d3, .d3, .d1, .d4⟩ 0 2 (.more 5), .int .i64 13] false 0),
  (⟨.d1, .d3, .d3, .d1, .d4⟩, .cells 51 [.int .i64 9, .str 1 105, .float .f64 0, .slice ⟨.d4, .d0, .d1, .d1, .d4⟩ 0 1 (.is 1), .int .i64 15, .int .i64 11, .str 0 0, .float .f64 0, .slice ⟨.d7, .d2, .d3, .d1, .d4⟩ 0 2 (.is 2), .int .i64 26] true 0),
  (⟨.d4, .d0, .d1, .d1, .d4⟩, .cells 51 [.int .i64 15, .str 0 0, .float .f64 0, .nilSlice, .int .i64 23] false 0),
  (⟨.d7, .d2, .d3, .d1, .d4⟩, .cells 51 [.int .i64 18, .str 1 60, .float .f64 0, .slice ⟨.d1, .d1, .d2, .d1, .d4⟩ 0 2 (.is 2), .int .i64 34, .int .i64 8, .str 0 0, .float .f64 0, .slice ⟨.d3, .d2, .d3, .d1, .d4⟩ 0 1 (.more 5), .int .i64 39] false 0),
  (⟨.d1, .d1, .d2, .d1, .d4⟩, .cells 51 [.int .i64 14, .str 1 105, .float .f64 0, .nilSlice, .int .i64 32, .int .i64 15, .str 0 0, .float .f64 4622382067542392832, .nilSlice, .int .i64 36] false 0),
  (⟨.d3, .d2, .d3, .d1, .d4⟩, .cells 51 [.int .i64 9, .str 1 105, .float .f64 0, .slice ⟨.d7, .d1, .d3, .d1, .d4⟩ 0 1 (.is 1), .int .i64 41] true 0),
  (⟨.d7, .d1, .d3, .d1, .d4⟩, .cells 51 [.int .i64 18, .str 1 43, .float .f64 0, .slice ⟨.d6, .d0, .d3, .d1, .d4⟩ 0 2 (.is 2), .int .i64 51] false 0),
  (⟨.d6, .d0, .d3, .d1, .d4⟩, .cells 51 [.int .i64 14, .str 1 105, .float .f64 0, .nilSlice, .int .i64 49, .int .i64 15, .str 0 0, .float .f64 4607182418800017408, .nilSlice, .int .i64 53] false 0)]⟩
def faceRow12 : Row := ⟨[.str 59 5960308038610897063766289614726580392604317199350809733047031433211568259217372268134262255074526184851930641994219350148550487942983901475430], .tup [.agg [.int .i64 1, .str 0 0, .float .f64 0, .slice ⟨.d3, .d4, .d3, .d1, .d4⟩ 0 1 (.more 5), .int .i64 0], .int .i64 0, .int .i64 0], [
  (⟨.d3, .d4, .d3, .d1, .d4⟩, .cells 51 [.int .i64 2, .str 0 0, .float .f64 0, .slice ⟨.d7, .d3, .d3, .d1, .d4⟩ 0 2 (.more 5), .int .i64 0] true 0),
  (⟨.d7, .d3, .d3, .d1, .d4⟩, .cells 51 [.int .i64 14, .str 0 0, .float .f64 0, .nilSlice, .int .i64 0, .int .i64 4, .str 0 0, .float .f64 0, .slice ⟨.d5, .d3, .d3, .d1, .d4⟩ 0 1 (.is 1), .int .i64 9] true 0),
  (⟨.d5, .d3, .d3, .d1, .d4⟩, .cells 51 [.int .i64 8, .str 0 0, .float .f64 0, .slice ⟨.d1, .d3, .d3, .d1, .d4⟩ 0 2 (.more 5), .int .i64 13] false 0),
  (⟨.d1, .d3, .d3, .d1, .d4⟩, .cells 51 [.int .i64 9, .str 1 105, .float .f64 0, .slice ⟨.d4, .d0, .d1, .d1, .d4⟩ 0 1 (.is 1), .int .i64 15, .int .i64 11, .str 0 0, .float .f64 0, .slice ⟨.d7, .d2, .d3, .d1, .d4⟩ 0 2 (.is 2), .int .i64 26] true 0),
  (⟨.d4, .d0, .d1, .d1, .d4⟩, .cells 51 [.int .i64 15, .str 0 0, .float .f64 0, .nilSlice, .int .i64 23] false 0),
  (⟨.d7, .d2, .d3, .d1, .d4⟩, .cells 51 [.int .i64 18, .str 1 60, .float .f64 0, .slice ⟨.d1, .d1, .d2, .d1, .d4⟩ 0 2 (.is 2), .int .i64 34, .int .i64 8, .str 0 0, .float .f64 0, .slice ⟨.d3, .d2, .d3, .d1, .d4⟩ 0 1 (.more 5), .int .i64 39] false 0),
  (⟨.d1, .d1, .d2, .d1, .d4⟩, .cells 51 [.int .i64 14, .str 1 105, .float .f64 0, .nilSlice, .int .i64 32, .int .i64 15, .str 0 0, .float .f64 4622945017495814144, .nilSlice, .int .i64 36] false 0),
  (⟨.d3, .d2, .d3, .d1, .d4⟩, .cells 51 [.int .i64 9, .str 1 105, .float .f64 0, .slice ⟨.d7, .d1, .d3, .d1, .d4⟩ 0 1 (.is 1), .int .i64 41] true 0),
  (⟨.d7, .d1, .d3, .d1, .d4⟩, .cells 51 [.int .i64 18, .str 1 43, .float .f64 0, .slice ⟨.d6, .d0, .d3, .d1, .d4⟩ 0 2 (.is 2), .int .i64 51] false 0),
  (⟨.d6, .d0, .d3, .d1, .d4⟩, .cells 51 [.int .i64 14, .str 1 105, .float .f64 0, .nilSlice, .int .i64 49, .int .i64 15, .str 0 0, .float .f64 4607182418800017408, .nilSlice, .int .i64 53] false 0)]⟩
def faceRow13 : Row := ⟨[.str 59 5960308038610897063766289614726580392604317199350809860361779954116948650995227793720397320791300788972946306752997434797381723151528037937766], .tup [.agg [.int .i64 1, .str 0 0, .float .f64 0, .slice ⟨.d3, .d4, .d3, .d1, .d4⟩ 0 1 (.more 5), .int .i64 0], .int .i64 0, .int .i64 0], [
  (⟨.d3, .d4, .d3, .d1, .d4⟩, .cells 51 [.int .i64 2, .str 0 0, .float .f64 0, .slice ⟨.d7, .d3, .d3, .d1, .d4⟩ 0 2 (.more 5), .int .i64 0] true 0),
  (⟨.d7, .d3, .d3, .d1, .d4⟩, .cells 51 [.int .i64 14, .str 0 0, .float .f64 0, .nilSlice, .int .i64 0, .int .i64 4, .str 0 0, .float .f64 0, .slice ⟨.d5, .d3, .d3, .d1, .d4⟩ 0 1 (.is 1), .int .i64 9] true 0),
  (⟨.d5, .d3, .d3, .d1, .d4⟩, .cells 51 [.int .i64 8, .str 0 0, .float .f64 0, .slice ⟨.d1, .d3, .d3, .d1, .d4⟩ 0 2 (.more 5), .int .i64 13] false 0),
  (⟨.d1, .d3, .d3, .d1, .d4⟩, .cells 51 [.int .i64 9, .str 1 105, .float .f64 0, .slice ⟨.d4, .d0, .d1, .d1, .d4⟩ 0 1 (.is 1), .int .i64 15, .int .i64 11, .str 0 0, .float .f64 0, .slice ⟨.d7, .d2, .d3, .d1, .d4⟩ 0 2 (.is 2), .int .i64 26] true 0),
  (⟨.d4, .d0, .d1, .d1, .d4⟩, .cells 51 [.int .i64 15, .str 0 0, .float .f64 0, .nilSlice, .int .i64 23] false 0),
  (⟨.d7, .d2, .d3, .d1, .d4⟩, .cells 51 [.int .i64 18, .str 1 60, .float .f64 0, .slice ⟨.d1, .d1, .d2, .d1, .d4⟩ 0 2 (.is 2), .int .i64 34, .int .i64 8, .str 0 0, .float .f64 0, .slice ⟨.d3, .d2, .d3, .d1, .d4⟩ 0 1 (.more 5), .int .i64 39] false 0),
  (⟨.d1, .d1, .d2, .d1, .d4⟩, .cells 51 [.int .i64 14, .str 1 105, .float .f64 0, .nilSlice, .int .i64 32, .int .i64 15, .str 0 0, .float .f64 4623507967449235456, .nilSlice, .int .i64 36] false 0),
  (⟨.d3, .d2, .d3, .d1, .d4⟩, .cells 51 [.int .i64 9, .str 1 105, .float .f64 0, .slice ⟨.d7, .d1, .d3, .d1, .d4⟩ 0 1 (.is 1), .int .i64 41] true 0),
  (⟨.d7, .d1, .d3, .d1, .d4⟩, .cells 51 [.int .i64 18, .str 1 43, .float .f64 0, .slice ⟨.d6, .d0, .d3, .d1, .d4⟩ 0 2 (.is 2), .int .i64 51] false 0),
  (⟨.d6, .d0, .d3, .d1, .d4⟩, .cells 51 [.int .i64 14, .str 1 105, .float .f64 0, .nilSlice, .int .i64 49, .int .i64 15, .str 0 0, .float .f64 4607182418800017408, .nilSlice, .int .i64 53] false 0)]⟩
def faceRow14 : Row := ⟨[.str 59 5960308038610897063766289614726580392604317199350809987676528475022329042773083319306532386508075393093961971511775519446212958360072174400102], .tup [.agg [.int .i64 1, .str 0 0, .float .f64 0, .slice ⟨.d3, .d4, .d3, .d1, .d4⟩ 0 1 (.more 5), .int .i64 0], .int .i64 0, .int .i64 0], [
  (⟨.d3, .d4, .d3, .d1, .d4⟩, .cells 51 [.int .i64 2, .str 0 0, .float .f64 0, .slice ⟨.d7, .d3, .d3, .d1, .d4⟩ 0 2 (.more 5), .int .i64 0] true 0),
  (⟨.d7, .d3, .d3, .d1, .d4⟩, .cells 51 [.int .i64 14, .str 0 0, .float .f64 0, .nilSlice, .int .i64 0, .int .i64 4, .str 0 0, .float .f64 0, .slice ⟨.d5, .d3, .d3, .d1, .d4⟩ 0 1 (.is 1), .int .i64 9] true 0),
  (⟨.d5, .d3, .d3, .d1, .d4⟩, .cells 51 [.int .i64 8, .str 0 0, .float .f64 0, .slice ⟨.d1, .d3, .d3, .d1, .d4⟩ 0 2 (.more 5), .int .i64 13] false 0),
  (⟨.d1, .d3, .d3, .d1, .d4⟩, .cells 51 [.int .i64 9, .str 1 105, .float .f64 0, .slice ⟨.d4, .d0, .d1, .d1, .d4⟩ 0 1 (.is 1), .int .i64 15, .int .i64 11, .str 0 0, .float .f64 0, .slice ⟨.d7, .d2, .d3, .d1, .d4⟩ 0 2 (.is 2), .int .i64 26] true 0),
  (⟨.d4, .d0, .d1, .d1, .d4⟩, .cells 51 [.int .i64 15, .str 0 0, .float .f64 0, .nilSlice, .int .i64 23] false 0),
  (⟨.d7, .d2, .d3, .d1, .d4⟩, .cells 51 [.int .i64 18, .str 1 60, .float .f64 0, .slice ⟨.d1, .d1, .d2, .d1, .d4⟩ 0 2 (.is 2), .int .i64 34, .int .i64 8, .str 0 0, .float .f64 0, .slice ⟨.d3, .d2, .d3, .d1, .d4⟩ 0 1 (.more 5), .int .i64 39] false 0),
  (⟨.d1, .d1, .d2, .d1, .d4⟩, .cells 51 [.int .i64 14, .str 1 105, .float .f64 0, .nilSlice, .int .i64 32, .int .i64 15, .str 0 0, .float .f64 4624070917402656768, .nilSlice, .int .i64 36] false 0),
  (⟨.d3, .d2, .d3, .d1, .d4⟩, .cells 51 [.int .i64 9, .str 1 105, .float .f64 0, .slice ⟨.d7, .d1, .d3, .d1, .d4⟩ 0 1 (.is 1), .int .i64 41] true 0),
  (⟨.d7, .d1, .d3, .d1, .d4⟩, .cells 51 [.int .i64 18, .str 1 43, .float .f64 0, .slice ⟨.d6, .d0, .d3, .d1, .d4⟩ 0 2 (.is 2), .int .i64 51] false 0),
  (⟨.d6, .d0, .d3, .d1, .d4⟩, .cells 51 [.int .i64 14, .str 1 105, .float .f64 0, .nilSlice, .int .i64 49, .int .i64 15, .str 0 0, .float .f64 4607182418800017408, .nilSlice, .int .i64 53] false 0)]⟩
def faceRow15 : Row := ⟨[.str 59 5960308038610897063766289614726580392604317199350810114991276995927709434550938844892667452224849997214977636270553604095044193568616310862438], .tup [.agg [.int .i64 1, .str 0 0, .float .f64 0, .slice ⟨.d3, .d4, .d3, .d1, .d4⟩ 0 1 (.more 5), .int .i64 0], .int .i64 0, .int .i64 0], [
  (⟨.d3, .d4, .d3, .d1, .d4⟩, .cells 51 [.int .i64 2, .str 0 0, .float .f64 0, .slice ⟨.d7, .d3, .d3, .d1, .d4⟩ 0 2 (.more 5), .int .i64 0] true 0),
  (⟨.d7, .d3, .d3, .d1, .d4⟩, .cells 51 [.int .i64 14, .str 0 0, .float .f64 0, .nilSlice, .int .i64 0, .int .i64 4, .str 0 0, .float .f64 0, .slice ⟨.d5, .d3, .d3, .d1, .d4⟩ 0 1 (.is 1), .int .i64 9] true 0),
  (⟨.d5, .d3, .d3, .d1, .d4⟩, .cells 51 [.int .i64 8, .str 0 0, .float .f64 0, .slice ⟨.d1, .d3, .d3, .d1, .d4⟩ 0 2 (.more 5), .int .i64 13] false 0),
  (⟨.d1, .d3, .d3, .d1, .d4⟩, .cells 51 [.int .i64 9, .str 1 105, .float .f64 0, .slice ⟨.d4, .d0, .d1, .d1, .d4⟩ 0 1 (.is 1), .int .i64 15, .int .i64 11, .str 0 0, .float .f64 0, .slice ⟨.d7, .d2, .d3, .d1, .d4⟩ 0 2 (.is 2), .int .i64 26] true 0),
  (⟨.d4, .d0, .d1, .d1, .d4⟩, .cells 51 [.int .i64 15, .str 0 0, .float .f64 0, .nilSlice, .int .i64 23] false 0),
  (⟨.d7, .d2, .d3, .d1, .d4⟩, .cells 51 [.int .i64 18, .str 1 60, .float .f64 0, .slice ⟨.d1, .d1, .d2, .d1, .d4⟩ 0 2 (.is 2), .int .i64 34, .int .i64 8, .str 0 0, .float .f64 0, .slice ⟨.d3, .d2, .d3, .d1, .d4⟩ 0 1 (.more 5), .int .i64 39] false 0),
  (⟨.d1, .d1, .d2, .d1, .d4⟩, .cells 51 [.int .i64 14, .str 1 105, .float .f64 0, .nilSlice, .int .i64 32, .int .i64 15, .str 0 0, .float .f64 4624633867356078080, .nilSlice, .int .i64 36] false 0),
  (⟨.d3, .d2, .d3, .d1, .d4⟩, .cells 51 [.int .i64 9, .str 1 105, .float .f64 0, .slice ⟨.d7, .d1, .d3, .d1, .d4⟩ 0 1 (.is 1), .int .i64 41] true 0),
  (⟨.d7, .d1, .d3, .d1, .d4⟩, .cells 51 [.int .i64 18, .str 1 43, .float .f64 0, .slice ⟨.d6, .d0, .d3, .d1, .d4⟩ 0 2 (.is 2), .int .i64 51] false 0),
  (⟨.d6, .d0, .d3, .d1, .d4⟩, .cells 51 [.int .i64 14, .str 1 105, .float .f64 0, .nilSlice, .int .i64 49, .int .i64 15, .str 0 0, .float .f64 4607182418800017408, .nilSlice, .int .i64 53] false 0)]⟩
def faceRow16 : Row := ⟨[.str 59 5960308038610897063766289614726580392604317199350810242306025516833089826328794370478802517941624601335993301029331688743875428777160447324774], .tup [.agg [.int .i64 1, .str 0 0, .float .f64 0, .slice ⟨.d3, .d4, .d3, .d1, .d4⟩ 0 1 (.more 5), .int .i64 0], .int .i64 0, .int .i64 0], [
  (⟨.d3, .d4, .d3, .d1, .d4⟩, .cells 51 [.int .i64 2, .str 0 0, .float .f64 0, .slice ⟨.d7, .d3, .d3, .d1, .d4⟩ 0 2 (.more 5), .int .i64 0] true 0),
  (⟨.d7, .d3, .d3, .d1, .d4⟩, .cells 51 [.int .i64 14, .str 0 0, .float .f64 0, .nilSlice, .int .i64 0, .int .i64 4, .str 0 0, .float .f64 0, .slice ⟨.d5, .d3, .d3, .d1, .d4⟩ 0 1 (.is 1), .int .i64 9] true 0),
  (⟨.d5, .d3, .d3, .d1, .d4⟩, .cells 51 [.int .i64 8, .str 0 0, .float .f64 0, .slice ⟨.d1, .d3, .d3, .d1, .d4⟩ 0 2 (.more 5), .int .i64 13] false 0),
  (⟨.d1, .d3, .d3, .d1, .d4⟩, .cells 51 [.int .i64 9, .str 1 105, .float .f64 0, .slice ⟨.d4, .d0, .d1, .d1, .d4⟩ 0 1 (.is 1), .int .i64 15, .int .i64 11, .str 0 0, .float .f64 0, .slice ⟨.d7, .d2, .d3, .d1, .d4⟩ 0 2 (.is 2), .int .i64 26] true 0),
  (⟨.d4, .d0, .d1, .d1, .d4⟩, .cells 51 [.int .i64 15, .str 0 0, .float .f64 0, .nilSlice, .int .i64 23] false 0),
  (⟨.d7, .d2, .d3, .d1, .d4⟩, .cells 51 [.int .i64 18, .str 1 60, .float .f64 0, .slice ⟨.d1, .d1, .d2, .d1, .d4⟩ 0 2 (.is 2), .int .i64 34, .int .i64 8, .str 0 0, .float .f64 0, .slice ⟨.d3, .d2, .d3, .d1, .d4⟩ 0 1 (.more 5), .int .i64 39] false 0),
  (⟨.d1, .d1, .d2, .d1, .d4⟩, .cells 51 [.int .i64 14, .str 1 105, .float .f64 0, .nilSlice, .int .i64 32, .int .i64 15, .str 0 0, .float .f64 4625196817309499392, .nilSlice, .int .i64 36] false 0),
  (⟨.d3, .d2, .d3, .d1, .d4⟩, .cells 51 [.int .i64 9, .str 1 105, .float .f64 0, .slice ⟨.d7, .d1, .d3, .d1, .d4⟩ 0 1 (.is 1), .int .i64 41] true 0),
  (⟨.d7, .d1, .d3, .d1, .d4⟩, .cells 51 [.int .i64 18, .str 1 43, .float .f64 0, .slice ⟨.d6, .d0, .d3, .d1, .d4⟩ 0 2 (.is 2), .int .i64 51] false 0),
  (⟨.d6, .d0, .d3, .d1, .d4⟩, .cells 51 [.int .i64 14, .str 1 105, .float .f64 0, .nilSlice, .int .i64 49, .int .i64 15, .str 0 0, .float .f64 4607182418800017408, .nilSlice, .int .i64 53] false 0)]⟩
def faceRow17 : Row := ⟨[.str 59 5960308038610897063766289614726580392604317199350810369620774037738470218106649896064937583658399205457008965788109773392706663985704583787110], .tup [.agg [.int .i64 1, .str 0 0, .float .f64 0, .slice ⟨.d3, .d4, .d3, .d1, .d4⟩ 0 1 (.more 5), .int .i64 0], .int .i64 0, .int .i64 0], [
  (⟨.d3, .d4, .d3, .d1, .d4⟩, .cells 51 [.int .i64 2, .str 0 0, .float .f64 0, .slice ⟨.d7, .d3, .d3, .d1, .d4⟩ 0 2 (.more 5), .int .i64 0] true 0),
  (⟨.d7, .d3, .d3, .d1, .d4⟩, .cells 51 [.int .i64 14, .str 0 0, .float .f64 0, .nilSlice, .int .i64 0, .int .i64 4, .str 0 0, .float .f64 0, .slice ⟨.d5, .d3, .d3, .d1, .d4⟩ 0 1 (.is 1), .int .i64 9] true 0),
  (⟨.d5, .d3, .d3, .d1, .d4⟩, .cells 51 [.int .i64 8, .str 0 0, .float .f64 0, .slice ⟨.d1, .d3, .d3, .d1, .d4⟩ 0 2 (.more 5), .int .i64 13] false 0),
  (⟨.d1, .d3, .d3, .d1, .d4⟩, .cells 51 [.int .i64 9, .str 1 105, .float .f64 0, .slice ⟨.d4, .d0, .d1, .d1, .d4⟩ 0 1 (.is 1), .int .i64 15, .int .i64 11, .str 0 0, .float .f64 0, .slice ⟨.d7, .d2, .d3, .d1, .d4⟩ 0 2 (.is 2), .int .i64 26] true 0),
  (⟨.d4, .d0, .d1, .d1, .d4⟩, .cells 51 [.int .i64 15, .str 0 0, .float .f64 0, .nilSlice, .int .i64 23] false 0),
  (⟨.d7, .d2, .d3, .d1, .d4⟩, .cells 51 [.int .i64 18, .str 1 60, .float .f64 0, .slice ⟨.d1, .d1, .d2, .d1, .d4⟩ 0 2 (.is 2), .int .i64 34, .int .i64 8, .str 0 0, .float .f64 0, .slice ⟨.d3, .d2, .d3, .d1, .d4⟩ 0 1 (.more 5), .int .i64 39] false 0),
  (⟨.d1, .d1, .d2, .d1, .d4⟩, .cells 51 [.int .i64 14, .str 1 105, .float .f64 0, .nilSlice, .int .i64 32, .int .i64 15, .str 0 0, .float .f64 4625478292286210048, .nilSlice, .int .i64 36] false 0),
  (⟨.d3, .d2, .d3, .d1, .d4⟩, .cells 51 [.int .i64 9, .str 1 105, .float .f64 0, .slice ⟨.d7, .d1, .d3, .d1, .d4⟩ 0 1 (.is 1), .int .i64 41] true 0),
  (⟨.d7, .d1, .d3, .d1, .d4⟩, .cells 51 [.int .i64 18, .str 1 43, .float .f64 0, .slice ⟨.d6, .d0, .d3, .d1, .d4⟩ 0 2 (.is 2), .int .i64 51] false 0),
  (⟨.d6, .d0, .d3, .d1, .d4⟩, .cells 51 [.int .i64 14, .str 1 105, .float .f64 0, .nilSlice, .int .i64 49, .int .i64 15, .str 0 0, .float .f64 4607182418800017408, .nilSlice, .int .i64 53] false 0)]⟩
def faceRow18 : Row := ⟨[.str 59 5960308038610897063766289614726580392604317199350810496935522558643850609884505421651072649375173809578024630546887858041537899194248720249446], .tup [.agg [.int .i64 1, .str 0 0, .float .f64 0, .slice ⟨.d3, .d4, .d3, .d1, .d4⟩ 0 1 (.more 5), .int .i64 0], .int .i64 0, .int .i64 0], [
  (⟨.d3, .d4, .d3, .d1, .d4⟩, .cells 51 [.int .i64 2, .str 0 0, .float .f64 0, .slice ⟨.d7, .d3, .d3, .d1, .d4⟩ 0 2 (.more 5), .int .i64 0] true 0),
  (⟨.d7, .d3, .d3, .d1, .d4⟩, .cells 51 [.int .i64 14, .str 0 0, .float .f64 0, .nilSlice, .int .i64 0, .int .i64 4, .str 0 0, .float .f64 0, .slice ⟨.d5, .d3, .d3, .d1, .d4⟩ 0 1 (.is 1), .int .i64 9] true 0),
  (⟨.d5, .d3, .d3, .d1, .d4⟩, .cells 51 [.int .i64 8, .str 0 0, .float .f64 0, .slice ⟨.d1, .d3, .d3, .d1, .d4⟩ 0 2 (.more 5), .int .i64 13] false 0),
  (⟨.d1, .d3, .d3, .d1, .d4⟩, .cells 51 [.int .i64 9, .str 1 105, .float .f64 0, .slice ⟨.d4, .d0, .d1, .d1, .d4⟩ 0 1 (.is 1), .int .i64 15, .int .i64 11, .str 0 0, .float .f64 0, .slice ⟨.d7, .d2, .d3, .d1, .d4⟩ 0 2 (.is 2), .int .i64 26] true 0),
  (⟨.d4, .d0, .d1, .d1, .d4⟩, .cells 51 [.int .i64 15, .str 0 0, .float .f64 0, .nilSlice, .int .i64 23] false 0),
  (⟨.d7, .d2, .d3, .d1, .d4⟩, .cells 51 [.int .i64 18, .str 1 60, .float .f64 0, .slice ⟨.d1, .d1, .d2, .d1, .d4⟩ 0 2 (.is 2), .int .i64 34, .int .i64 8, .str 0 0, .float .f64 0, .slice ⟨.d3, .d2, .d3, .d1, .d4⟩ 0 1 (.more 5), .int .i64 39] false 0),
  (⟨.d1, .d1, .d2, .d1, .d4⟩, .cells 51 [.int .i64 14, .str 1 105, .float .f64 0, .nilSlice, .int .i64 32, .int .i64 15, .str 0 0, .float .f64 4625759767262920704, .nilSlice, .int .i64 36] false 0),
  (⟨.d3, .d2, .d3, .d1, .d4⟩, .cells 51 [.int .i64 9, .str 1 105, .float .f64 0, .slice ⟨.d7, .d1, .d3, .d1, .d4⟩ 0 1 (.is 1), .int .i64 41] true 0),
  (⟨.d7, .d1, .d3, .d1, .d4⟩, .cells 51 [.int .i64 18, .str 1 43, .float .f64 0, .slice ⟨.d6, .d0, .d3, .d1, .d4⟩ 0 2 (.is 2), .int .i64 51] false 0),
  (⟨.d6, .d0, .d3, .d1, .d4⟩, .cells 51 [.int .i64 14, .str 1 105, .float .f64 0, .nilSlice, .int .i64 49, .int .i64 15, .str 0 0, .float .f64 4607182418800017408, .nilSlice, .int .i64 53] false 0)]⟩
def faceRow19 : Row := ⟨[.str 59 5960308038610897063766289614726580392604317199350810624250271079549231001662360947237207715091948413699040295305665942690369134402792856711782], .tup [.agg [.int .i64 1, .str 0 0, .float .f64 0, .slice ⟨.d3, .d4, .d3, .d1, .d4⟩ 0 1 (.more 5), .int .i64 0], .int .i64 0, .int .i64 0], [
  (⟨.d3, .d4, .d3, .d1, .d4⟩, .cells 51 [.int .i64 2, .str 0 0, .float .f64 0, .slice ⟨.d7, .d3, .d3, .d1, .d4⟩ 0 2 (.more 5), .int .i64 0] true 0),
  (⟨.d7, .d3, .d3, .d1, .d4⟩, .cells 51 [.int .i64 14, .str 0 0, .float .f64 0, .nilSlice, .int .i64 0, .int .i64 4, .str 0 0, .float .f64 0, .slice ⟨.d5, .d3, .d3, .d1, .d4⟩ 0 1 (.is 1), .int .i64 9] true 0),
  (⟨.d5, .d3, .d3, .d1, .d4⟩, .cells 51 [.int .i64 8, .str 0 0, .float .f64 0, .slice ⟨.d1, .d3, .d3, .d1, .d4⟩ 0 2 (.more 5), .int .i64 13] false 0),
  (⟨.d1, .d3, .d3, .d1, .d4⟩, .cells 51 [.int .i64 9, .str 1 105, .float .f64 0, .slice ⟨.d4, .d0, .d1, .d1, .d4⟩ 0 1 (.is 1), .int .i64 15, .int .i64 11, .str 0 0, .float .f64 0, .slice ⟨.d7, .d2, .d3, .d1, .d4⟩ 0 2 (.is 2), .int .i64 26] true 0),
  (⟨.d4, .d0, .d1, .d1, .d4⟩, .cells 51 [.int .i64 15, .str 0 0, .float .f64 0, .nilSlice, .int .i64 23] false 0),
  (⟨.d7, .d2, .d3, .d1, .d4⟩, .cells 51 [.int .i64 18, .str 1 60, .float .f64 0, .slice ⟨.d1, .d1, .d2, .d1, .d4⟩ 0 2 (.is 2), .int .i64 34, .int .i64 8, .str 0 0, .float .f64 0, .slice ⟨.d3, .d2, .d3, .d1, .d4⟩ 0 1 (.more 5), .int .i64 39] false 0),
  (⟨.d1, .d1, .d2, .d1, .d4⟩, .cells 51 [.int .i64 14, .str 1 105, .float .f64 0, .nilSlice, .int .i64 32, .int .i64 15, .str 0 0, .float .f64 4626041242239631360, .nilSlice, .int .i64 36] false 0),
  (⟨.d3, .d2, .d3, .d1, .d4⟩, .cells 51 [.int .i64 9, .str 1 105, .float .f64 0, .slice ⟨.d7, .d1, .d3, .d1, .d4⟩ 0 1 (.is 1), .int .i64 41] true 0),
  (⟨.d7, .d1, .d3, .d1, .d4⟩, .cells 51 [.int .i64 18, .str 1 43, .float .f64 0, .slice ⟨.d6, .d0, .d3, .d1, .d4⟩ 0 2 (.is 2), .int .i64 51] false 0),
  (⟨.d6, .d0, .d3, .d1, .d4⟩, .cells 51 [.int .i64 14, .str 1 105, .float .f64 0, .nilSlice, .int .i64 49, .int .i64 15, .str 0 0, .float .f64 4607182418800017408, .nilSlice, .int .i64 53] false 0)]⟩
def faceRow20 : Row := ⟨[.str 59 5960308038610897063766289614726580392604317199350809478914857627810594117817043465108812963741433127407247029917127157744047514538429004083814], .tup [.agg [.int .i64 1, .str 0 0, .float .f64 0, .slice ⟨.d3, .d4, .d3, .d1, .d4⟩ 0 1 (.more 5), .int .i64 0], .int .i64 0, .int .i64 0], [
  (⟨.d3, .d4, .d3, .d1, .d4⟩, .cells 51 [.int .i64 2, .str 0 0, .float .f64 0, .slice ⟨.d7, .d3, .d3, .d1, .d4⟩ 0 2 (.more 5), .int .i64 0] true 0),
  (⟨.d7, .d3, .d3, .d1, .d4⟩, .cells 51 [.int .i64 14, .str 0 0, .float .f64 0, .nilSlice, .int .i64 0, .int .i64 4, .str 0 0, .float .f64 0, .slice ⟨.d5, .d3, .d3, .d1, .d4⟩ 0 1 (.is 1), .int .i64 9] true 0),
  (⟨.d5, .d3, .d3, .d1, .d4⟩, .cells 51 [.int .i64 8, .str 0 0, .float .f64 0, .slice ⟨.d1, .d3, .d3, .d1, .d4⟩ 0 2 (.more 5), .int .i64 13] false 0),
  (⟨.d1, .d3, .d3, .d1, .d4⟩, .cells 51 [.int .i64 9, .str 1 105, .float .f64 0, .slice ⟨.d4, .d0, .d1, .d1, .d4⟩ 0 1 (.is 1), .int .i64 15, .int .i64 11, .str 0 0, .float .f64 0, .slice ⟨.d7, .d2, .d3, .d1, .d4⟩ 0 2 (.is 2), .int .i64 26] true 0),
  (⟨.d4, .d0, .d1, .d1, .d4⟩, .cells 51 [.int .i64 15, .str 0 0, .float .f64 0, .nilSlice, .int .i64 23] false 0),
  (⟨.d7, .d2, .d3, .d1, .d4⟩, .cells 51 [.int .i64 18, .str 1 60, .float .f64 0, .slice ⟨.d1, .d1, .d2, .d1, .d4⟩ 0 2 (.is 2), .int .i64 34, .int .i64 8, .str 0 0, .float .f64 0, .slice ⟨.d3, .d2, .d3, .d1, .d4⟩ 0 1 (.more 5), .int .i64 39] false 0),
  (⟨.d1, .d1, .d2, .d1, .d4⟩, .cells 51 [.int .i64 14, .str 1 105, .float .f64 0, .nilSlice, .int .i64 32, .int .i64 15, .str 0 0, .float .f64 4626322717216342016, .nilSlice, .int .i64 36] false 0),
  (⟨.d3, .d2, .d3, .d1, .d4⟩, .cells 51 [.int .i64 9, .str 1 105, .float .f64 0, .slice ⟨.d7, .d1, .d3, .d1, .d4⟩ 0 1 (.is 1), .int .i64 41] true 0),
  (⟨.d7, .d1, .d3, .d1, .d4⟩, .cells 51 [.int .i64 18, .str 1 43, .float .f64 0, .slice ⟨.d6, .d0, .d3, .d1, .d4⟩ 0 2 (.is 2), .int .i64 51] false 0),
  (⟨.d6, .d0, .d3, .d1, .d4⟩, .cells 51 [.int .i64 14, .str 1 105, .float .f64 0, .nilSlice, .int .i64 49, .int .i64 15, .str 0 0, .float .f64 4607182418800017408, .nilSlice, .int .i64 53] false 0)]⟩
def faceRow21 : Row := ⟨[.str 59 5960308038610897063766289614726580392604317199350809606229606148715974509594898990694948029458207731528262694675905242392878749746973140546150], .tup [.agg [.int .i64 1, .str 0 0, .float .f64 0, .slice ⟨.d3, .d4, .d3, .d1, .d4⟩ 0 1 (.more 5), .int .i64 0], .int .i64 0, .int .i64 0], [
  (⟨.d3, .d4, .d3, .d1, .d4⟩, .cells 51 [.int .i64 2, .str 0 0, .float .f64 0, .slice ⟨.d7, .d3, .d3, .d1, .d4⟩ 0 2 (.more 5), .int .i64 0] true 0),
  (⟨.d7, .d3, .d3, .d1, .d4⟩, .cells 51 [.int .i64 14, .str 0 0, .float .f64 0, .nilSlice, .int .i64 0, .int .i64 4, .str 0 0, .float .f64 0, .slice ⟨.d5, .d3, .d3, .d1, .d4⟩ 0 1 (.is 1), .int .i64 9] true 0),
  (⟨.d5, .d3, .d3, .d1, .d4⟩, .cells 51 [.int .i64 8, .str 0 0, .float .f64 0, .slice ⟨.d1, .d3, .d3, .d1, .d4⟩ 0 2 (.more 5), .int .i64 13] false 0),
  (⟨.d1, .d3, .d3, .d1, .d4⟩, .cells 51 [.int .i64 9, .str 1 105, .float .f64 0, .slice ⟨.d4, .d0, .d1, .d1, .d4⟩ 0 1 (.is 1), .int .i64 15, .int .i64 11, .str 0 0, .float .f64 0, .slice ⟨.d7, .d2, .d3, .d1, .d4⟩ 0 2 (.is 2), .int .i64 26] true 0),
  (⟨.d4, .d0, .d1, .d1, .d4⟩, .cells 51 [.int .i64 15, .str 0 0, .float .f64 0, .nilSlice, .int .i64 23] false 0),
  (⟨.d7, .d2, .d3, .d1, .d4⟩, .cells 51 [.int .i64 18, .str 1 60, .float .f64 0, .slice ⟨.d1, .d1, .d2, .d1, .d4⟩ 0 2 (.is 2), .int .i64 34, .int .i64 8, .str 0 0, .float .f64 0, .slice ⟨.d3, .d2, .d3, .d1, .d4⟩ 0 1 (.more 5), .int .i64 39] false 0),
  (⟨.d1, .d1, .d2, .d1, .d4⟩, .cells 51 [.int .i64 14, .str 1 105, .float .f64 0, .nilSlice, .int .i64 32, .int .i64 15, .str 0 0, .float .f64 4626604192193052672, .nilSlice, .int .i64 36] false 0),
  (⟨.d3, .d2, .d3, .d1, .d4⟩, .cells 51 [.int .i64 9, .str 1 105, .float .f64 0, .slice ⟨.d7, .d1, .d3, .d1, .d4⟩ 0 1 (.is 1), .int .i64 41] true 0),
  (⟨.d7, .d1, .d3, .d1, .d4⟩, .cells 51 [.int .i64 18, .str 1 43, .float .f64 0, .slice ⟨.d6, .d0, .d3, .d1, .d4⟩ 0 2 (.is 2), .int .i64 51] false 0),
  (⟨.d6, .d0, .d3, .d1, .d4⟩, .cells 51 [.int .i64 14, .str 1 105, .float .f64 0, .nilSlice, .int .i64 49, .int .i64 15, .str 0 0, .float .f64 4607182418800017408, .nilSlice, .int .i64 53] false 0)]⟩
def faceRow22 : Row := ⟨[.str 59 5960308038610897063766289614726580392604317199350809733544354669621354901372754516281083095174982335649278359434683327041709984955517277008486], .tup [.agg [.int .i64 1, .str 0 0, .float .f64 0, .slice ⟨.d3, .d4, .d3, .d1, .d4⟩ 0 1 (.more 5), .int .i64 0], .int .i64 0, .int .i64 0], [
  (⟨.d3, .d4, .d3, .d1, .d4⟩, .cells 51 [.int .i64 2, .str 0 0, .float .f64 0, .slice ⟨.d7, .d3, .d3, .d1, .d4⟩ 0 2 (.more 5), .int .i64 0] true 0),
  (⟨.d7, .d3, .d3, .d1, .d4⟩, .cells 51 [.int .i64 14, .str 0 0, .float .f64 0, .nilSlice, .int .i64 0, .int .i64 4, .str 0 0, .float .f64 0, .slice ⟨.d5, .d3, .d3, .d1, .d4⟩ 0 1 (.is 1), .int .i64 9] true 0),
  (⟨.d5, .d3, .d3, .d1, .d4⟩, .cells 51 [.int .i64 8, .str 0 0, .float .f64 0, .slice ⟨.d1, .d3, .d3, .d1, .d4⟩ 0 2 (.more 5), .int .i64 13] false 0),
  (⟨.d1, .d3, .d3, .d1, .d4⟩, .cells 51 [.int .i64 9, .str 1 105, .float .f64 0, .slice ⟨.d4, .d0, .d1, .d1, .d4⟩ 0 1 (.is 1), .int .i64 15, .int .i64 11, .str 0 0, .float .f64 0, .slice ⟨.d7, .d2, .d3, .d1, .d4⟩ 0 2 (.is 2), .int .i64 26] true 0),
  (⟨.d4, .d0, .d1, .d1, .d4⟩, .cells 51 [.int .i64 15, .str 0 0, .float .f64 0, .nilSlice, .int .i64 23] false 0),
  (⟨.d7, .d2, .d3, .d1, .d4⟩, .cells 51 [.int .i64 18, .str 1 60, .float .f64 0, .slice ⟨.d1, .d1, .d2, .d1, .d4⟩ 0 2 (.is 2), .int .i64 34, .int .i64 8, .str 0 0, .float .f64 0, .slice ⟨.d3, .d2, .d3, .d1, .d4⟩ 0 1 (.more 5), .int .i64 39] false 0),
  (⟨.d1, .d1, .d2, .d1, .d4⟩, .cells 51 [.int .i64 14, .str 1 105, .float .f64 0, .nilSlice, .int .i64 32, .int .i64 15, .str 0 0, .float .f64 4626885667169763328, .nilSlice, .int .i64 36] false 0),
  (⟨.d3, .d2, .d3, .d1, .d4⟩, .cells 51 [.int .i64 9, .str 1 105, .float .f64 0, .slice ⟨.d7, .d1, .d3, .d1, .d4⟩ 0 1 (.is 1), .int .i64 41] true 0),
  (⟨.d7, .d1, .d3, .d1, .d4⟩, .cells 51 [.int .i64 18, .str 1 43, .float .f64 0, .slice ⟨.d6, .d0, .d3, .d1, .d4⟩ 0 2 (.is 2), .int .i64 51] false 0),
  (⟨.d6, .d0, .d3, .d1, .d4⟩, .cells 51 [.int .i64 14, .str 1 105, .float .f64 0, .nilSlice, .int .i64 49, .int .i64 15, .str 0 0, .float .f64 4607182418800017408, .nilSlice, .int .i64 53] false 0)]⟩
def faceRow23 : Row := ⟨[.str 59 5960308038610897063766289614726580392604317199350809860859103190526735293150610041867218160891756939770294024193461411690541220164061413470822], .tup [.agg [.int .i64 1, .str 0 0, .float .f64 0, .slice ⟨.d3, .d4, .d3, .d1, .d4⟩ 0 1 (.more 5), .int .i64 0], .int .i64 0, .int .i64 0], [
  (⟨.d3, .d4, .d3, .d1, .d4⟩, .cells 51 [.int .i64 2, .str 0 0, .float .f64 0, .slice ⟨.d7, .d3, .d3, .d1, .d4⟩ 0 2 (.more 5), .int .i64 0] true 0),
  (⟨.d7, .d3, .d3, .d1, .d4⟩, .cells 51 [.int .i64 14, .str 0 0, .float .f64 0, .nilSlice, .int .i64 0, .int .i64 4, .str 0 0, .float .f64 0, .slice ⟨.d5, .d3, .d3, .d1, .d4⟩ 0 1 (.is 1), .int .i64 9] true 0),
  (⟨.d5, .d3, .d3, .d1, .d4⟩, .cells 51 [.int .i64 8, .str 0 0, .float .f64 0, .slice ⟨.d1, .d3, .d3, .d1, .d4⟩ 0 2 (.more 5), .int .i64 13] false 0),
  (⟨.d1, .d3, .d3, .d1, .d4⟩, .cells 51 [.int .i64 9, .str 1 105, .float .f64 0, .slice ⟨.d4, .d0, .d1, .d1, .d4⟩ 0 1 (.is 1), .int .i64 15, .int .i64 11, .str 0 0, .float .f64 0, .slice ⟨.d7, .d2, .d3, .d1, .d4⟩ 0 2 (.is 2), .int .i64 26] true 0),
  (⟨.d4, .d0, .d1, .d1, .d4⟩, .cells 51 [.int .i64 15, .str 0 0, .float .f64 0, .nilSlice, .int .i64 23] false 0),
  (⟨.d7, .d2, .d3, .d1, .d4⟩, .cells 51 [.int .i64 18, .str 1 60, .float .f64 0, .slice ⟨.d1, .d1, .d2, .d1, .d4⟩ 0 2 (.is 2), .int .i64 34, .int .i64 8, .str 0 0, .float .f64 0, .slice ⟨.d3, .d2, .d3, .d1, .d4⟩ 0 1 (.more 5), .int .i64 39] false 0),
  (⟨.d1, .d1, .d2, .d1, .d4⟩, .cells 51 [.int .i64 14, .str 1 105, .float .f64 0, .nilSlice, .int .i64 32, .int .i64 15, .str 0 0, .float .f64 4627167142146473984, .nilSlice, .int .i64 36] false 0),
  (⟨.d3, .d2, .d3, .d1, .d4⟩, .cells 51 [.int .i64 9, .str 1 105, .float .f64 0, .slice ⟨.d7, .d1, .d3, .d1, .d4⟩ 0 1 (.is 1), .int .i64 41] true 0),
  (⟨.d7, .d1, .d3, .d1, .d4⟩, .cells 51 [.int .i64 18, .str 1 43, .float .f64 0, .slice ⟨.d6, .d0, .d3, .d1, .d4⟩ 0 2 (.is 2), .int .i64 51] false 0),
  (⟨.d6, .d0, .d3, .d1, .d4⟩, .cells 51 [.int .i64 14, .str 1 105, .float .f64 0, .nilSlice, .int .i64 49, .int .i64 15, .str 0 0, .float .f64 4607182418800017408, .nilSlice, .int .i64 53] false 0)]⟩
def faceRow24 : Row := ⟨[.str 59 5960308038610897063766289614726580392604317199350809988173851711432115684928465567453353226608531543891309688952239496339372455372605549933158], .tup [.agg [.int .i64 1, .str 0 0, .float .f64 0, .slice ⟨.d3, .d4, .d3, .d1, .d4⟩ 0 1 (.more 5), .int .i64 0], .int .i64 0, .int .i64 0], [
  (⟨.d3, .d4, .d3, .d1, .d4⟩, .cells 51 [.int .i64 2, .str 0 0, .float .f64 0, .slice ⟨.d7, .d3, .d3, .d1, .d4⟩ 0 2 (.more 5), .int .i64 0] true 0),
  (⟨.d7, .d3, .d3, .d1, .d4⟩, .cells 51 [.int .i64 14, .str 0 0, .float .f64 0, .nilSlice, .int .i64 0, .int .i64 4, .str 0 0, .float .f64 0, .slice ⟨.d5, .d3, .d3, .d1, .d4⟩ 0 1 (.is 1), .int .i64 9] true 0),
  (⟨.d5, .d3, .d3, .d1, .d4⟩, .cells 51 [.int .i64 8, .str 0 0, .float .f64 0, .slice ⟨.d1, .d3, .d3, .d1, .d4⟩ 0 2 (.more 5), .int .i64 13] false 0),
  (⟨.d1, .d3, .d3, .d1, .d4⟩, .cells 51 [.int .i64 9, .str 1 105, .float .f64 0, .slice ⟨.d4, .d0, .d1, .d1, .d4⟩ 0 1 (.is 1), .int .i64 15, .int .i64 11, .str 0 0, .float .f64 0, .slice ⟨.d7, .d2, .d3, .d1, .d4⟩ 0 2 (.is 2), .int .i64 26] true 0),
  (⟨.d4, .d0, .d1, .d1, .d4⟩, .cells 51 [.int .i64 15, .str 0 0, .float .f64 0, .nilSlice, .int .i64 23] false 0),
  (⟨.d7, .d2, .d3, .d1, .d4⟩, .cells 51 [.int .i64 18, .str 1 60, .float .f64 0, .slice ⟨.d1, .d1, .d2, .d1, .d4⟩ 0 2 (.is 2), .int .i64 34, .int .i64 8, .str 0 0, .float .f64 0, .slice ⟨.d3, .d2, .d3, .d1, .d4⟩ 0 1 (.more 5), .int .i64 39] false 0),
  (⟨.d1, .d1, .d2, .d1, .d4⟩, .cells 51 [.int .i64 14, .str 1 105, .float .f64 0, .nilSlice, .int .i64 32, .int .i64 15, .str 0 0, .float .f64 4627448617123184640, .nilSlice, .int .i64 36] false 0),
  (⟨.d3, .d2, .d3, .d1, .d4⟩, .cells 51 [.int .i64 9, .str 1 105, .float .f64 0, .slice ⟨.d7, .d1, .d3, .d1, .d4⟩ 0 1 (.is 1), .int .i64 41] true 0),
  (⟨.d7, .d1, .d3, .d1, .d4⟩, .cells 51 [.int .i64 18, .str 1 43, .float .f64 0, .slice ⟨.d6, .d0, .d3, .d1, .d4⟩ 0 2 (.is 2), .int .i64 51] false 0),
  (⟨.d6, .d0, .d3, .d1, .d4⟩, .cells 51 [.int .i64 14, .str 1 105, .float .f64 0, .nilSlice, .int .i64 49, .int .i64 15, .str 0 0, .float .f64 4607182418800017408, .nilSlice, .int .i64 53] false 0)]⟩
def faceRow25 : Row := ⟨[.str 59 5960308038610897063766289614726580392604317199350810115488600232337496076706321093039488292325306148012325353711017580988203690581149686395494], .tup [.agg [.int .i64 1, .str 0 0, .float .f64 0, .slice ⟨.d3, .d4, .d3, .d1, .d4⟩ 0 1 (.more 5), .int .i64 0], .int .i64 0, .int .i64 0], [
  (⟨.d3, .d4, .d3, .d1, .d4⟩, .cells 51 [.int .i64 2, .str 0 0, .float .f64 0, .slice ⟨.d7, .d3, .d3, .d1, .d4⟩ 0 2 (.more 5), .int .i64 0] true 0),
  (⟨.d7, .d3, .d3, .d1, .d4⟩, .cells 51 [.int .i64 14, .str 0 0, .float .f64 0, .nilSlice, .int .i64 0, .int .i64 4, .str 0 0, .float .f64 0, .slice ⟨.d5, .d3, .d3, .d1, .d4⟩ 0 1 (.is 1), .int .i64 9] true 0),
  (⟨.d5, .d3, .d3, .d1, .d4⟩, .cells 51 [.int .i64 8, .str 0 0, .float .f64 0, .slice ⟨.d1, .d3, .d3, .d1, .d4⟩ 0 2 (.more 5), .int .i64 13] false 0),
  (⟨.d1, .d3, .d3, .d1, .d4⟩, .cells 51 [.int .i64 9, .str 1 105, .float .f64 0, .slice ⟨.d4, .d0, .d1, .d1, .d4⟩ 0 1 (.is 1), .int .i64 15, .int .i64 11, .str 0 0, .float .f64 0, .slice ⟨.d7, .d2, .d3, .d1, .d4⟩ 0 2 (.is 2), .int .i64 26] true 0),
  (⟨.d4, .d0, .d1, .d1, .d4⟩, .cells 51 [.int .i64 15, .str 0 0, .float .f64 0, .nilSlice, .int .i64 23] false 0),
  (⟨.d7, .d2, .d3, .d1, .d4⟩, .cells 51 [.int .i64 18, .str 1 60, .float .f64 0, .slice ⟨.d1, .d1, .d2, .d1, .d4⟩ 0 2 (.is 2), .int .i64 34, .int .i64 8, .str 0 0, .float .f64 0, .slice ⟨.d3, .d2, .d3, .d1, .d4⟩ 0 1 (.more 5), .int .i64 39] false 0),
  (⟨.d1, .d1, .d2, .d1, .d4⟩, .cells 51 [.int .i64 14, .str 1 105, .float .f64 0, .nilSlice, .int .i64 32, .int .i64 15, .str 0 0, .float .f64 4627730092099895296, .nilSlice, .int .i64 36] false 0),
  (⟨.d3, .d2, .d3, .d1, .d4⟩, .cells 51 [.int .i64 9, .str 1 105, .float .f64 0, .slice ⟨.d7, .d1, .d3, .d1, .d4⟩ 0 1 (.is 1), .int .i64 41] true 0),
  (⟨.d7, .d1, .d3, .d1, .d4⟩, .cells 51 [.int .i64 18, .str 1 43, .float .f64 0, .slice ⟨.d6, .d0, .d3, .d1, .d4⟩ 0 2 (.is 2), .int .i64 51] false 0),
  (⟨.d6, .d0, .d3, .d1, .d4⟩, .cells 51 [.int .i64 14, .str 1 105, .float .f64 0, .nilSlice, .int .i64 49, .int .i64 15, .str 0 0, .float .f64 4607182418800017408, .nilSlice, .int .i64 53] false 0)]⟩
def faceRow26 : Row := ⟨[.str 59 5960308038610897063766289614726580392604317199350810242803348753242876468484176618625623358042080752133341018469795665637034925789693822857830], .tup [.agg [.int .i64 1, .str 0 0, .float .f64 0, .slice ⟨.d3, .d4, .d3, .d1, .d4⟩ 0 1 (.more 5), .int .i64 0], .int .i64 0, .int .i64 0], [
  (⟨.d3, .d4, .d3, .d1, .d4⟩, .cells 51 [.int .i64 2, .str 0 0, .float .f64 0, .slice ⟨.d7, .d3, .d3, .d1, .d4⟩ 0 2 (.more 5), .int .i64 0] true 0),
  (⟨.d7, .d3, .d3, .d1, .d4⟩, .cells 51 [.int .i64 14, .str 0 0, .float .f64 0, .nilSlice, .int .i64 0, .int .i64 4, .str 0 0, .float .f64 0, .slice ⟨.d5, .d3, .d3, .d1, .d4⟩ 0 1 (.is 1), .int .i64 9] true 0),
  (⟨.d5, .d3, .d3, .d1, .d4⟩, .cells 51 [.int .i64 8, .str 0 0, .float .f64 0, .slice ⟨.d1, .d3, .d3, .d1, .d4⟩ 0 2 (.more 5), .int .i64 13] false 0),
  (⟨.d1, .d3, .d3, .d1, .d4⟩, .cells 51 [.int .i64 9, .str 1 105, .float .f64 0, .slice ⟨.d4, .d0, .d1, .d1, .d4⟩ 0 1 (.is 1), .int .i64 15, .int .i64 11, .str 0 0, .float .f64 0, .slice ⟨.d7, .d2, .d3, .d1, .d4⟩ 0 2 (.is 2), .int .i64 26] true 0),
  (⟨.d4, .d0, .d1, .d1, .d4⟩, .cells 51 [.int .i64 15, .str 0 0, .float .f64 0, .nilSlice, .int .i64 23] false 0),
  (⟨.d7, .d2, .d3, .d1, .d4⟩, .cells 51 [.int .i64 18, .str 1 60, .float .f64 0, .slice ⟨.d1, .d1, .d2, .d1, .d4⟩ 0 2 (.is 2), .int .i64 34, .int .i64 8, .str 0 0, .float .f64 0, .slice ⟨.d3, .d2, .d3, .d1, .d4⟩ 0 1 (.more 5), .int .i64 39] false 0),
  (⟨.d1, .d1, .d2, .d1, .d4⟩, .cells 51 [.int .i64 14, .str 1 105, .float .f64 0, .nilSlice, .int .i64 32, .int .i64 15, .str 0 0, .float .f64 4628011567076605952, .nilSlice, .int .i64 36] false 0),
  (⟨.d3, .d2, .d3, .d1, .d4⟩, .cells 51 [.int .i64 9, .str 1 105, .float .f64 0, .slice ⟨.d7, .d1, .d3, .d1, .d4⟩ 0 1 (.is 1), .int .i64 41] true 0),
  (⟨.d7, .d1, .d3, .d1, .d4⟩, .cells 51 [.int .i64 18, .str 1 43, .float .f64 0, .slice ⟨.d6, .d0, .d3, .d1, .d4⟩ 0 2 (.is 2), .int .i64 51] false 0),
  (⟨.d6, .d0, .d3, .d1, .d4⟩, .cells 51 [.int .i64 14, .str 1 105, .float .f64 0, .nilSlice, .int .i64 49, .int .i64 15, .str 0 0, .float .f64 4607182418800017408, .nilSlice, .int .i64 53] false 0)]⟩
def faceRow27 : Row := ⟨[.str 59 5960308038610897063766289614726580392604317199350810370118097274148256860262032144211758423758855356254356683228573750285866160998237959320166], .tup [.agg [.int .i64 1, .str 0 0, .float .f64 0, .slice ⟨.d3, .d4, .d3, .d1, .d4⟩ 0 1 (.more 5), .int .i64 0], .int .i64 0, .int .i64 0], [
  (⟨.d3, .d4, .d3, .d1, .d4⟩, .cells 51 [.int .i64 2, .str 0 0, .float .f64 0, .slice ⟨.d7, .d3, .d3, .d1, .d4⟩ 0 2 (.more 5), .int .i64 0] true 0),
  (⟨.d7, .d3, .d3, .d1, .d4⟩, .cells 51 [.int .i64 14, .str 0 0, .float .f64 0, .nilSlice, .int .i64 0, .int .i64 4, .str 0 0, .float .f64 0, .slice ⟨.d5, .d3, .d3, .d1, .d4⟩ 0 1 (.is 1), .int .i64 9] true 0),
  (⟨.d5, .d3, .d3, .d1, .d4⟩, .cells 51 [.int .i64 8, .str 0 0, .float .f64 0, .slice ⟨.d1, .d3, .d3, .d1, .d4⟩ 0 2 (.more 5), .int .i64 13] false 0),
  (⟨.d1, .d3, .d3, .d1, .d4⟩, .cells 51 [.int .i64 9, .str 1 105, .float .f64 0, .slice ⟨.d4, .d0, .d1, .d1, .d4⟩ 0 1 (.is 1), .int .i64 15, .int .i64 11, .str 0 0, .float .f64 0, .slice ⟨.d7, .d2, .d3, .d1, .d4⟩ 0 2 (.is 2), .int .i64 26] true 0),
  (⟨.d4, .d0, .d1, .d1, .d4⟩, .cells 51 [.int .i64 15, .str 0 0, .float .f64 0, .nilSlice, .int .i64 23] false 0),
  (⟨.d7, .d2, .d3, .d1, .d4⟩, .cells 51 [.int .i64 18, .str 1 60, .float .f64 0, .slice ⟨.d1, .d1, .d2, .d1, .d4⟩ 0 2 (.is 2), .int .i64 34, .int .i64 8, .str 0 0, .float .f64 0, .slice ⟨.d3, .d2, .d3, .d1, .d4⟩ 0 1 (.more 5), .int .i64 39] false 0),
  (⟨.d1, .d1, .d2, .d1, .d4⟩, .cells 51 [.int .i64 14, .str 1 105, .float .f64 0, .nilSlice, .int .i64 32, .int .i64 15, .str 0 0, .float .f64 4628293042053316608, .nilSlice, .int .i64 36] false 0),
  (⟨.d3, .d2, .d3, .d1, .d4⟩, .cells 51 [.int .i64 9, .str 1 105, .float .f64 0, .slice ⟨.d7, .d1, .d3, .d1, .d4⟩ 0 1 (.is 1), .int .i64 41] true 0),
  (⟨.d7, .d1, .d3, .d1, .d4⟩, .cells 51 [.int .i64 18, .str 1 43, .float .f64 0, .slice ⟨.d6, .d0, .d3, .d1, .d4⟩ 0 2 (.is 2), .int .i64 51] false 0),
  (⟨.d6, .d0, .d3, .d1, .d4⟩, .cells 51 [.int .i64 14, .str 1 105, .float .f64 0, .nilSlice, .int .i64 49, .int .i64 15, .str 0 0, .float .f64 4607182418800017408, .nilSlice, .int .i64 53] false 0)]⟩
def faceRow28 : Row := ⟨[.str 59 5960308038610897063766289614726580392604317199350810497432845795053637252039887669797893489475629960375372347987351834934697396206782095782502], .tup [.agg [.int .i64 1, .str 0 0, .float .f64 0, .slice ⟨.d3, .d4, .d3, .d1, .d4⟩ 0 1 (.more 5), .int .i64 0], .int .i64 0, .int .i64 0], [
  (⟨.d3, .d4, .d3, .d1, .d4⟩, .cells 51 [.int .i64 2, .str 0 0, .float .f64 0, .slice ⟨.d7, .d3, .d3, .d1, .d4⟩ 0 2 (.more 5), .int .i64 0] true 0),
  (⟨.d7, .d3, .d3, .d1, .d4⟩, .cells 51 [.int .i64 14, .str 0 0, .float .f64 0, .nilSlice, .int .i64 0, .int .i64 4, .str 0 0, .float .f64 0, .slice ⟨.d5, .d3, .d3, .d1, .d4⟩ 0 1 (.is 1), .int .i64 9] true 0),
  (⟨.d5, .d3, .d3, .d1, .d4⟩, .cells 51 [.int .i64 8, .str 0 0, .float .f64 0, .slice ⟨.d1, .d3, .d3, .d1, .d4⟩ 0 2 (.more 5), .int .i64 13] false 0),
  (⟨.d1, .d3, .d3, .d1, .d4⟩, .cells 51 [.int .i64 9, .str 1 105, .float .f64 0, .slice ⟨.d4, .d0, .d1, .d1, .d4⟩ 0 1 (.is 1), .int .i64 15, .int .i64 11, .str 0 0, .float .f64 0, .slice ⟨.d7, .d2, .d3, .d1, .d4⟩ 0 2 (.is 2), .int .i64 26] true 0),
  (⟨.d4, .d0, .d1, .d1, .d4⟩, .cells 51 [.int .i64 15, .str 0 0, .float .f64 0, .nilSlice, .int .i64 23] false 0),
  (⟨.d7, .d2, .d3, .d1, .d4⟩, .cells 51 [.int .i64 18, .str 1 60, .float .f64 0, .slice ⟨.d1, .d1, .d2, .d1, .d4⟩ 0 2 (.is 2), .int .i64 34, .int .i64 8, .str 0 0, .float .f64 0, .slice ⟨.d3, .d2, .d3, .d1, .d4⟩ 0 1 (.more 5), .int .i64 39] false 0),
  (⟨.d1, .d1, .d2, .d1, .d4⟩, .cells 51 [.int .i64 14, .str 1 105, .float .f64 0, .nilSlice, .int .i64 32, .int .i64 15, .str 0 0, .float .f64 4628574517030027264, .nilSlice, .int .i64 36] false 0),
  (⟨.d3, .d2, .d3, .d1, .d4⟩, .cells 51 [.int .i64 9, .str 1 105, .float .f64 0, .slice ⟨.d7, .d1, .d3, .d1, .d4⟩ 0 1 (.is 1), .int .i64 41] true 0),
  (⟨.d7, .d1, .d3, .d1, .d4⟩, .cells 51 [.int .i64 18, .str 1 43, .float .f64 0, .slice ⟨.d6, .d0, .d3, .d1, .d4⟩ 0 2 (.is 2), .int .i64 51] false 0),
  (⟨.d6, .d0, .d3, .d1, .d4⟩, .cells 51 [.int .i64 14, .str 1 105, .float .f64 0, .nilSlice, .int .i64 49, .int .i64 15, .str 0 0, .float .f64 4607182418800017408, .nilSlice, .int .i64 53] false 0)]⟩
def faceRow29 : Row := ⟨[.str 59 5960308038610897063766289614726580392604317199350810624747594315959017643817743195384028555192404564496388012746129919583528631415326232244838], .tup [.agg [.int .i64 1, .str 0 0, .float .f64 0, .slice ⟨.d3, .d4, .d3, .d1, .d4⟩ 0 1 (.more 5), .int .i64 0], .int .i64 0, .int .i64 0], [
  (⟨.d3, .d4, .d3, .d1, .d4⟩, .cells 51 [.int .i64 2, .str 0 0, .float .f64 0, .slice ⟨.d7, .d3, .d3, .d1, .d4⟩ 0 2 (.more 5), .int .i64 0] true 0),
  (⟨.d7, .d3, .d3, .d1, .d4⟩, .cells 51 [.int .i64 14, .str 0 0, .float .f64 0, .nilSlice, .int .i64 0, .int .i64 4, .str 0 0, .float .f64 0, .slice ⟨.d5, .d3, .d3, .d1, .d4⟩ 0 1 (.is 1), .int .i64 9] true 0),
  (⟨.d5, .d3, .d3, .d1, .d4⟩, .cells 51 [.int .i64 8, .str 0 0, .float .f64 0, .slice ⟨.d1, .d3, .d3, .d1, .d4⟩ 0 2 (.more 5), .int .i64 13] false 0),
  (⟨.d1, .d3, .d3, .d1, .d4⟩, .cells 51 [.int .i64 9, .str 1 105, .float .f64 0, .slice ⟨.d4, .d0, .d1, .d1, .d4⟩ 0 1 (.is 1), .int .i64 15, .int .i64 11, .str 0 0, .float .f64 0, .slice ⟨.d7, .d2, .d3, .d1, .d4⟩ 0 2 (.is 2), .int .i64 26] true 0),
  (⟨.d4, .d0, .d1, .d1, .d4⟩, .cells 51 [.int .i64 15, .str 0 0, .float .f64 0, .nilSlice, .int .i64 23] false 0),
  (⟨.d7, .d2, .d3, .d1, .d4⟩, .cells 51 [.int .i64 18, .str 1 60, .float .f64 0, .slice ⟨.d1, .d1, .d2, .d1, .d4⟩ 0 2 (.is 2), .int .i64 34, .int .i64 8, .str 0 0, .float .f64 0, .slice ⟨.d3, .d2, .d3, .d1, .d4⟩ 0 1 (.more 5), .int .i64 39] false 0),
  (⟨.d1, .d1, .d2, .d1, .d4⟩, .cells 51 [.int .i64 14, .str 1 105, .float .f64 0, .nilSlice, .int .i64 32, .int .i64 15, .str 0 0, .float .f64 4628855992006737920, .nilSlice, .int .i64 36] false 0),
  (⟨.d3, .d2, .d3, .d1, .d4⟩, .cells 51 [.int .i64 9, .str 1 105, .float .f64 0, .slice ⟨.d7, .d1, .d3, .d1, .d4⟩ 0 1 (.is 1), .int .i64 41] true 0),
  (⟨.d7, .d1, .d3, .d1, .d4⟩, .cells 51 [.int .i64 18, .str 1 43, .float .f64 0, .slice ⟨.d6, .d0, .d3, .d1, .d4⟩ 0 2 (.is 2), .int .i64 51] false 0),
  (⟨.d6, .d0, .d3, .d1, .d4⟩, .cells 51 [.int .i64 14, .str 1 105, .float .f64 0, .nilSlice, .int .i64 49, .int .i64 15, .str 0 0, .float .f64 4607182418800017408, .nilSlice, .int .i64 53] false 0)]⟩
def faceRow30 : Row := ⟨[.str 59 5960308038610897063766289614726580392604317199350809479412180864220380759972425713255633803841889278204594747357591134637207011550962379616870], .tup [.agg [.int .i64 1, .str 0 0, .float .f64 0, .slice ⟨.d3, .d4, .d3, .d1, .d4⟩ 0 1 (.more 5), .int .i64 0], .int .i64 0, .int .i64 0], [
  (⟨.d3, .d4, .d3, .d1, .d4⟩, .cells 51 [.int .i64 2, .str 0 0, .float .f64 0, .slice ⟨.d7, .d3, .d3, .d1, .d4⟩ 0 2 (.more 5), .int .i64 0] true 0),
  (⟨.d7, .d3, .d3, .d1, .d4⟩, .cells 51 [.int .i64 14, .str 0 0, .float .f64 0, .nilSlice, .int .i64 0, .int .i64 4, .str 0 0, .float .f64 0, .slice ⟨.d5, .d3, .d3, .d1, .d4⟩ 0 1 (.is 1), .int .i64 9] true 0),
  (⟨.d5, .d3, .d3, .d1, .d4⟩, .cells 51 [.int .i64 8, .str 0 0, .float .f64 0, .slice ⟨.d1, .d3, .d3, .d1, .d4⟩ 0 2 (.more 5), .int .i64 13] false 0),
  (⟨.d1, .d3, .d3, .d1, .d4⟩, .cells 51 [.int .i64 9, .str 1 105, .float .f64 0, .slice ⟨.d4, .d0, .d1, .d1, .d4⟩ 0 1 (.is 1), .int .i64 15, .int .i64 11, .str 0 0, .float .f64 0, .slice ⟨.d7, .d2, .d3, .d1, .d4⟩ 0 2 (.is 2), .int .i64 26] true 0),
  (⟨.d4, .d0, .d1, .d1, .d4⟩, .cells 51 [.int .i64 15, .str 0 0, .float .f64 0, .nilSlice, .int .i64 23] false 0),
  (⟨.d7, .d2, .d3, .d1, .d4⟩, .cells 51 [.int .i64 18, .str 1 60, .float .f64 0, .slice ⟨.d1, .d1, .d2, .d1, .d4⟩ 0 2 (.is 2), .int .i64 34, .int .i64 8, .str 0 0, .float .f64 0, .slice ⟨.d3, .d2, .d3, .d1, .d4⟩ 0 1 (.more 5), .int .i64 39] false 0),
  (⟨.d1, .d1, .d2, .d1, .d4⟩, .cells 51 [.int .i64 14, .str 1 105, .float .f64 0, .nilSlice, .int .i64 32, .int .i64 15, .str 0 0, .float .f64 4629137466983448576, .nilSlice, .int .i64 36] false 0),
  (⟨.d3, .d2, .d3, .d1, .d4⟩, .cells 51 [.int .i64 9, .str 1 105, .float .f64 0, .slice ⟨.d7, .d1, .d3, .d1, .d4⟩ 0 1 (.is 1), .int .i64 41] true 0),
  (⟨.d7, .d1, .d3, .d1, .d4⟩, .cells 51 [.int .i64 18, .str 1 43, .float .f64 0, .slice ⟨.d6, .d0, .d3, .d1, .d4⟩ 0 2 (.is 2), .int .i64 51] false 0),
  (⟨.d6, .d0, .d3, .d1, .d4⟩, .cells 51 [.int .i64 14, .str 1 105, .float .f64 0, .nilSlice, .int .i64 49, .int .i64 15, .str 0 0, .float .f64 4607182418800017408, .nilSlice, .int .i64 53] false 0)]⟩
def faceRow31 : Row := ⟨[.str 59 5960308038610897063766289614726580392604317199350809606726929385125761151750281238841768869558663882325610412116369219286038246759506516079206], .tup [.agg [.int .i64 1, .str 0 0, .float .f64 0, .slice ⟨.d3, .d4, .d3, .d1, .d4⟩ 0 1 (.more 5), .int .i64 0], .int .i64 0, .int .i64 0], [
  (⟨.d3, .d4, .d3, .d1, .d4⟩, .cells 51 [.int .i64 2, .str 0 0, .float .f64 0, .slice ⟨.d7, .d3, .d3, .d1, .d4⟩ 0 2 (.more 5), .int .i64 0] true 0),
  (⟨.d7, .d3, .d3, .d1, .d4⟩, .cells 51 [.int .i64 14, .str 0 0, .float .f64 0, .nilSlice, .int .i64 0, .int .i64 4, .str 0 0, .float .f64 0, .slice ⟨.d5, .d3, .d3, .d1, .d4⟩ 0 1 (.is 1), .int .i64 9] true 0),
  (⟨.d5, .d3, .d3, .d1, .d4⟩, .cells 51 [.int .i64 8, .str 0 0, .float .f64 0, .slice ⟨.d1, .d3, .d3, .d1, .d4⟩ 0 2 (.more 5), .int .i64 13] false 0),
  (⟨.d1, .d3, .d3, .d1, .d4⟩, .cells 51 [.int .i64 9, .str 1 105, .float .f64 0, .slice ⟨.d4, .d0, .d1, .d1, .d4⟩ 0 1 (.is 1), .int .i64 15, .int .i64 11, .str 0 0, .float .f64 0, .slice ⟨.d7, .d2, .d3, .d1, .d4⟩ 0 2 (.is 2), .int .i64 26] true 0),
  (⟨.d4, .d0, .d1, .d1, .d4⟩, .cells 51 [.int .i64 15, .str 0 0, .float .f64 0, .nilSlice, .int .i64 23] false 0),
  (⟨.d7, .d2, .d3, .d1, .d4⟩, .cells 51 [.int .i64 18, .str 1 60, .float .f64 0, .slice ⟨.d1, .d1, .d2, .d1, .d4⟩ 0 2 (.is 2), .int .i64 34, .int .i64 8, .str 0 0, .float .f64 0, .slice ⟨.d3, .d2, .d3, .d1, .d4⟩ 0 1 (.more 5), .int .i64 39] false 0),
  (⟨.d1, .d1, .d2, .d1, .d4⟩, .cells 51 [.int .i64 14, .str 1 105, .float .f64 0, .nilSlice, .int .i64 32, .int .i64 15, .str 0 0, .float .f64 4629418941960159232, .nilSlice, .int .i64 36] false 0),
  (⟨.d3, .d2, .d3, .d1, .d4⟩, .cells 51 [.int .i64 9, .str 1 105, .float .f64 0, .slice ⟨.d7, .d1, .d3, .d1, .d4⟩ 0 1 (.is 1), .int .i64 41] true 0),
  (⟨.d7, .d1, .d3, .d1, .d4⟩, .cells 51 [.int .i64 18, .str 1 43, .float .f64 0, .slice ⟨.d6, .d0, .d3, .d1, .d4⟩ 0 2 (.is 2), .int .i64 51] false 0),
  (⟨.d6, .d0, .d3, .d1, .d4⟩, .cells 51 [.int .i64 14, .str 1 105, .float .f64 0, .nilSlice, .int .i64 49, .int .i64 15, .str 0 0, .float .f64 4607182418800017408, .nilSlice, .int .i64 53] false 0)]⟩
def faceRow32 : Row := ⟨[.str 59 5960308038610897063766289614726580392604317199350809734041677906031141543528136764427903935275438486446626076875147303934869481968050652541542], .tup [.agg [.int .i64 1, .str 0 0, .float .f64 0, .slice ⟨.d3, .d4, .d3, .d1, .d4⟩ 0 1 (.more 5), .int .i64 0], .int .i64 0, .int .i64 0], [
  (⟨.d3, .d4, .d3, .d1, .d4⟩, .cells 51 [.int .i64 2, .str 0 0, .float .f64 0, .slice ⟨.d7, .d3, .d3, .d1, .d4⟩ 0 2 (.more 5), .int .i64 0] true 0),
  (⟨.d7, .d3, .d3, .d1, .d4⟩, .cells 51 [.int .i64 14, .str 0 0, .float .f64 0, .nilSlice, .int .i64 0, .int .i64 4, .str 0 0, .float .f64 0, .slice ⟨.d5, .d3, .d3, .d1, .d4⟩ 0 1 (.is 1), .int .i64 9] true 0),
  (⟨.d5, .d3, .d3, .d1, .d4⟩, .cells 51 [.int .i64 8, .str 0 0, .float .f64 0, .slice ⟨.d1, .d3, .d3, .d1, .d4⟩ 0 2 (.more 5), .int .i64 13] false 0),
  (⟨.d1, .d3, .d3, .d1, .d4⟩, .cells 51 [.int .i64 9, .str 1 105, .float .f64 0, .slice ⟨.d4, .d0, .d1, .d1, .d4⟩ 0 1 (.is 1), .int .i64 15, .int .i64 11, .str 0 0, .float .f64 0, .slice ⟨.d7, .d2, .d3, .d1, .d4⟩ 0 2 (.is 2), .int .i64 26] true 0),
  (⟨.d4, .d0, .d1, .d1, .d4⟩, .cells 51 [.int .i64 15, .str 0 0, .float .f64 0, .nilSlice, .int .i64 23] false 0),
  (⟨.d7, .d2, .d3, .d1, .d4⟩, .cells 51 [.int .i64 18, .str 1 60, .float .f64 0, .slice ⟨.d1, .d1, .d2, .d1, .d4⟩ 0 2 (.is 2), .int .i64 34, .int .i64 8, .str 0 0, .float .f64 0, .slice ⟨.d3, .d2, .d3, .d1, .d4⟩ 0 1 (.more 5), .int .i64 39] false 0),
  (⟨.d1, .d1, .d2, .d1, .d4⟩, .cells 51 [.int .i64 14, .str 1 105, .float .f64 0, .nilSlice, .int .i64 32, .int .i64 15, .str 0 0, .float .f64 4629700416936869888, .nilSlice, .int .i64 36] false 0),
  (⟨.d3, .d2, .d3, .d1, .d4⟩, .cells 51 [.int .i64 9, .str 1 105, .float .f64 0, .slice ⟨.d7, .d1, .d3, .d1, .d4⟩ 0 1 (.is 1), .int .i64 41] true 0),
  (⟨.d7, .d1, .d3, .d1, .d4⟩, .cells 51 [.int .i64 18, .str 1 43, .float .f64 0, .slice ⟨.d6, .d0, .d3, .d1, .d4⟩ 0 2 (.is 2), .int .i64 51] false 0),
  (⟨.d6, .d0, .d3, .d1, .d4⟩, .cells 51 [.int .i64 14, .str 1 105, .float .f64 0, .nilSlice, .int .i64 49, .int .i64 15, .str 0 0, .float .f64 4607182418800017408, .nilSlice, .int .i64 53] false 0)]⟩
def faceRow33 : Row := ⟨[.str 59 5960308038610897063766289614726580392604317199350809861356426426936521935305992290014039000992213090567641741633925388583700717176594789003878], .tup [.agg [.int .i64 1, .str 0 0, .float .f64 0, .slice ⟨.d3, .d4, .d3, .d1, .d4⟩ 0 1 (.more 5), .int .i64 0], .int .i64 0, .int .i64 0], [
  (⟨.d3, .d4, .d3, .d1, .d4⟩, .cells 51 [.int .i64 2, .str 0 0, .float .f64 0, .slice ⟨.d7, .d3, .d3, .d1, .d4⟩ 0 2 (.more 5), .int .i64 0] true 0),
  (⟨.d7, .d3, .d3, .d1, .d4⟩, .cells 51 [.int .i64 14, .str 0 0, .float .f64 0, .nilSlice, .int .i64 0, .int .i64 4, .str 0 0, .float .f64 0, .slice ⟨.d5, .d3, .d3, .d1, .d4⟩ 0 1 (.is 1), .int .i64 9] true 0),
  (⟨.d5, .d3, .d3, .d1, .d4⟩, .cells 51 [.int .i64 8, .str 0 0, .float .f64 0, .slice ⟨.d1, .d3, .d3, .d1, .d4⟩ 0 2 (.more 5), .int .i64 13] false 0),
  (⟨.d1, .d3, .d3, .d1, .d4⟩, .cells 51 [.int .i64 9, .str 1 105, .float .f64 0, .slice ⟨.d4, .d0, .d1, .d1, .d4⟩ 0 1 (.is 1), .int .i64 15, .int .i64 11, .str 0 0, .float .f64 0, .slice ⟨.d7, .d2, .d3, .d1, .d4⟩ 0 2 (.is 2), .int .i64 26] true 0),
  (⟨.d4, .d0, .d1, .d1, .d4⟩, .cells 51 [.int .i64 15, .str 0 0, .float .f64 0, .nilSlice, .int .i64 23] false 0),
  (⟨.d7, .d2, .d3, .d1, .d4⟩, .cells 51 [.int .i64 18, .str 1 60, .float .f64 0, .slice ⟨.d1, .d1, .d2, .d1, .d4⟩ 0 2 (.is 2), .int .i64 34, .int .i64 8, .str 0 0, .float .f64 0, .slice ⟨.d3, .d2, .d3, .d1, .d4⟩ 0 1 (.more 5), .int .i64 39] false 0),
  (⟨.d1, .d1, .d2, .d1, .d4⟩, .cells 51 [.int .i64 14, .str 1 105, .float .f64 0, .nilSlice, .int .i64 32, .int .i64 15, .str 0 0, .float .f64 4629841154425225216, .nilSlice, .int .i64 36] false 0),
  (⟨.d3, .d2, .d3, .d1, .d4⟩, .cells 51 [.int .i64 9, .str 1 105, .float .f64 0, .slice ⟨.d7, .d1, .d3, .d1, .d4⟩ 0 1 (.is 1), .int .i64 41] true 0),
  (⟨.d7, .d1, .d3, .d1, .d4⟩, .cells 51 [.int .i64 18, .str 1 43, .float .f64 0, .slice ⟨.d6, .d0, .d3, .d1, .d4⟩ 0 2 (.is 2), .int .i64 51] false 0),
  (⟨.d6, .d0, .d3, .d1, .d4⟩, .cells 51 [.int .i64 14, .str 1 105, .float .f64 0, .nilSlice, .int .i64 49, .int .i64 15, .str 0 0, .float .f64 4607182418800017408, .nilSlice, .int .i64 53] false 0)]⟩
def faceRow34 : Row := ⟨[.str 59 5960308038610897063766289614726580392604317199350809988671174947841902327083847815600174066708987694688657406392703473232531952385138925466214], .tup [.agg [.int .i64 1, .str 0 0, .float .f64 0, .slice ⟨.d3, .d4, .d3, .d1, .d4⟩ 0 1 (.more 5), .int .i64 0], .int .i64 0, .int .i64 0], [
  (⟨.d3, .d4, .d3, .d1, .d4⟩, .cells 51 [.int .i64 2, .str 0 0, .float .f64 0, .slice ⟨.d7, .d3, .d3, .d1, .d4⟩ 0 2 (.more 5), .int .i64 0] true 0),
  (⟨.d7, .d3, .d3, .d1, .d4⟩, .cells 51 [.int .i64 14, .str 0 0, .float .f64 0, .nilSlice, .int .i64 0, .int .i64 4, .str 0 0, .float .f64 0, .slice ⟨.d5, .d3, .d3, .d1, .d4⟩ 0 1 (.is 1), .int .i64 9] true 0),
  (⟨.d5, .d3, .d3, .d1, .d4⟩, .cells 51 [.int .i64 8, .str 0 0, .float .f64 0, .slice ⟨.d1, .d3, .d3, .d1, .d4⟩ 0 2 (.more 5), .int .i64 13] false 0),
  (⟨.d1, .d3, .d3, .d1, .d4⟩, .cells 51 [.int .i64 9, .str 1 105, .float .f64 0, .slice ⟨.d4, .d0, .d1, .d1, .d4⟩ 0 1 (.is 1), .int .i64 15, .int .i64 11, .str 0 0, .float .f64 0, .slice ⟨.d7, .d2, .d3, .d1, .d4⟩ 0 2 (.is 2), .int .i64 26] true 0),
  (⟨.d4, .d0, .d1, .d1, .d4⟩, .cells 51 [.int .i64 15, .str 0 0, .float .f64 0, .nilSlice, .int .i64 23] false 0),
  (⟨.d7, .d2, .d3, .d1, .d4⟩, .cells 51 [.int .i64 18, .str 1 60, .float .f64 0, .slice ⟨.d1, .d1, .d2, .d1, .d4⟩ 0 2 (.is 2), .int .i64 34, .int .i64 8, .str 0 0, .float .f64 0, .slice ⟨.d3, .d2, .d3, .d1, .d4⟩ 0 1 (.more 5), .int .i64 39] false 0),
  (⟨.d1, .d1, .d2, .d1, .d4⟩, .cells 51 [.int .i64 14, .str 1 105, .float .f64 0, .nilSlice, .int .i64 32, .int .i64 15, .str 0 0, .float .f64 4629981891913580544, .nilSlice, .int .i64 36] false 0),
  (⟨.d3, .d2, .d3, .d1, .d4⟩, .cells 51 [.int .i64 9, .str 1 105, .float .f64 0, .slice ⟨.d7, .d1, .d3, .d1, .d4⟩ 0 1 (.is 1), .int .i64 41] true 0),
  (⟨.d7, .d1, .d3, .d1, .d4⟩, .cells 51 [.int .i64 18, .str 1 43, .float .f64 0, .slice ⟨.d6, .d0, .d3, .d1, .d4⟩ 0 2 (.is 2), .int .i64 51] false 0),
  (⟨.d6, .d0, .d3, .d1, .d4⟩, .cells 51 [.int .i64 14, .str 1 105, .float .f64 0, .nilSlice, .int .i64 49, .int .i64 15, .str 0 0, .float .f64 4607182418800017408, .nilSlice, .int .i64 53] false 0)]⟩
def faceRow35 : Row := ⟨[.str 59 5960308038610897063766289614726580392604317199350810115985923468747282718861703341186309132425762298809673071151481557881363187593683061928550], .tup [.agg [.int .i64 1, .str 0 0, .float .f64 0, .slice ⟨.d3, .d4, .d3, .d1, .d4⟩ 0 1 (.more 5), .int .i64 0], .int .i64 0, .int .i64 0], [
  (⟨.d3, .d4, .d3, .d1, .d4⟩, .cells 51 [.int .i64 2, .str 0 0, .float .f64 0, .slice ⟨.d7, .d3, .d3, .d1, .d4⟩ 0 2 (.more 5), .int .i64 0] true 0),
  (⟨.d7, .d3, .d3, .d1, .d4⟩, .cells 51 [.int .i64 14, .str 0 0, .float .f64 0, .nilSlice, .int .i64 0, .int .i64 4, .str 0 0, .float .f64 0, .slice ⟨.d5, .d3, .d3, .d1, .d4⟩ 0 1 (.is 1), .int .i64 9] true 0),
  (⟨.d5, .d3, .d3, .d1, .d4⟩, .cells 51 [.int .i64 8, .str 0 0, .float .f64 0, .slice ⟨.d1, .d3, .d3, .d1, .d4⟩ 0 2 (.more 5), .int .i64 13] false 0),
  (⟨.d1, .d3, .d3, .d1, .d4⟩, .cells 51 [.int .i64 9, .str 1 105, .float .f64 0, .slice ⟨.d4, .d0, .d1, .d1, .d4⟩ 0 1 (.is 1), .int .i64 15, .int .i64 11, .str 0 0, .float .f64 0, .slice ⟨.d7, .d2, .d3, .d1, .d4⟩ 0 2 (.is 2), .int .i64 26] true 0),
  (⟨.d4, .d0, .d1, .d1, .d4⟩, .cells 51 [.int .i64 15, .str 0 0, .float .f64 0, .nilSlice, .int .i64 23] false 0),
  (⟨.d7, .d2, .d3, .d1, .d4⟩, .cells 51 [.int .i64 18, .str 1 60, .float .f64 0, .slice ⟨.d1, .d1, .d2, .d1, .d4⟩ 0 2 (.is 2), .int .i64 34, .int .i64 8, .str 0 0, .float .f64 0, .slice ⟨.d3, .d2, .d3, .d1, .d4⟩ 0 1 (.more 5), .int .i64 39] false 0),
  (⟨.d1, .d1, .d2, .d1, .d4⟩, .cells 51 [.int .i64 14, .str 1 105, .float .f64 0, .nilSlice, .int .i64 32, .int .i64 15, .str 0 0, .float .f64 4630122629401935872, .nilSlice, .int .i64 36] false 0),
  (⟨.d3, .d2, .d3, .d1, .d4⟩, .cells 51 [.int .i64 9, .str 1 105, .float .f64 0, .slice ⟨.d7, .d1, .d3, .d1, .d4⟩ 0 1 (.is 1), .int .i64 41] true 0),
  (⟨.d7, .d1, .d3, .d1, .d4⟩, .cells 51 [.int .i64 18, .str 1 43, .float .f64 0, .slice ⟨.d6, .d0, .d3, .d1, .d4⟩ 0 2 (.is 2), .int .i64 51] false 0),
  (⟨.d6, .d0, .d3, .d1, .d4⟩, .cells 51 [.int .i64 14, .str 1 105, .float .f64 0, .nilSlice, .int .i64 49, .int .i64 15, .str 0 0, .float .f64 4607182418800017408, .nilSlice, .int .i64 53] false 0)]⟩
def faceRow36 : Row := ⟨[.str 59 5960308038610897063766289614726580392604317199350810243300671989652663110639558866772444198142536902930688735910259642530194422802227198390886], .tup [.agg [.int .i64 1, .str 0 0, .float .f64 0, .slice ⟨.d3, .d4, .d3, .d1, .d4⟩ 0 1 (.more 5), .int .i64 0], .int .i64 0, .int .i64 0], [
  (⟨.d3, .d4, .d3, .d1, .d4⟩, .cells 51 [.int .i64 2, .str 0 0, .float .f64 0, .slice ⟨.d7, .d3, .d3, .d1, .d4⟩ 0 2 (.more 5), .int .i64 0] true 0),
  (⟨.d7, .d3, .d3, .d1, .d4⟩, .cells 51 [.int .i64 14, .str 0 0, .float .f64 0, .nilSlice, .int .i64 0, .int .i64 4, .str 0 0, .float .f64 0, .slice ⟨.d5, .d3, .d3, .d1, .d4⟩ 0 1 (.is 1), .int .i64 9] true 0),
  (⟨.d5, .d3, .d3, .d1, .d4⟩, .cells 51 [.int .i64 8, .str 0 0, .float .f64 0, .slice ⟨.d1, .d3, .d3, .d1, .d4⟩ 0 2 (.more 5), .int .i64 13] false 0),
  (⟨.d1, .d3, .d3, .d1, .d4⟩, .cells 51 [.int .i64 9, .str 1 105, .float .f64 0, .slice ⟨.d4, .d0, .d1, .d1, .d4⟩ 0 1 (.is 1), .int .i64 15, .int .i64 11, .str 0 0, .float .f64 0, .slice ⟨.d7, .d2, .d3, .d1, .d4⟩ 0 2 (.is 2), .int .i64 26] true 0),
  (⟨.d4, .d0, .d1, .d1, .d4⟩, .cells 51 [.int .i64 15, .str 0 0, .float .f64 0, .nilSlice, .int .i64 23] false 0),
  (⟨.d7, .d2, .d3, .d1, .d4⟩, .cells 51 [.int .i64 18, .str 1 60, .float .f64 0, .slice ⟨.d1, .d1, .d2, .d1, .d4⟩ 0 2 (.is 2), .int .i64 34, .int .i64 8, .str 0 0, .float .f64 0, .slice ⟨.d3, .d2, .d3, .d1, .d4⟩ 0 1 (.more 5), .int .i64 39] false 0),
  (⟨.d1, .d1, .d2, .d1, .d4⟩, .cells 51 [.int .i64 14, .str 1 105, .float .f64 0, .nilSlice, .int .i64 32, .int .i64 15, .str 0 0, .float .f64 4630263366890291200, .nilSlice, .int .i64 36] false 0),
  (⟨.d3, .d2, .d3, .d1, .d4⟩, .cells 51 [.int .i64 9, .str 1 105, .float .f64 0, .slice ⟨.d7, .d1, .d3, .d1, .d4⟩ 0 1 (.is 1), .int .i64 41] true 0),
  (⟨.d7, .d1, .d3, .d1, .d4⟩, .cells 51 [.int .i64 18, .str 1 43, .float .f64 0, .slice ⟨.d6, .d0, .d3, .d1, .d4⟩ 0 2 (.is 2), .int .i64 51] false 0),
  (⟨.d6, .d0, .d3, .d1, .d4⟩, .cells 51 [.int .i64 14, .str 1 105, .float .f64 0, .nilSlice, .int .i64 49, .int .i64 15, .str 0 0, .float .f64 4607182418800017408, .nilSlice, .int .i64 53] false 0)]⟩
def faceRow37 : Row := ⟨[.str 59 5960308038610897063766289614726580392604317199350810370615420510558043502417414392358579263859311507051704400669037727179025658010771334853222], .tup [.agg [.int .i64 1, .str 0 0, .float .f64 0, .slice ⟨.d3, .d4, .d3, .d1, .d4⟩ 0 1 (.more 5), .int .i64 0], .int .i64 0, .int .i64 0], [
  (⟨.d3, .d4, .d3, .d1, .d4⟩, .cells 51 [.int .i64 2, .str 0 0, .float .f64 0, .slice ⟨.d7, .d3, .d3, .d1, .d4⟩ 0 2 (.more 5), .int .i64 0] true 0),
  (⟨.d7, .d3, .d3, .d1, .d4⟩, .cells 51 [.int .i64 14, .str 0 0, .float .f64 0, .nilSlice, .int .i64 0, .int .i64 4, .str 0 0, .float .f64 0, .slice ⟨.d5, .d3, .d3, .d1, .d4⟩ 0 1 (.is 1), .int .i64 9] true 0),
  (⟨.d5, .d3, .d3, .d1, .d4⟩, .cells 51 [.int .i64 8, .str 0 0, .float .f64 0, .slice ⟨.d1, .d3, .d3, .d1, .d4⟩ 0 2 (.more 5), .int .i64 13] false 0),
  (⟨.d1, .d3, .d3, .d1, .d4⟩, .cells 51 [.int .i64 9, .str 1 105, .float .f64 0, .slice ⟨.d4, .d0, .d1, .d1, .d4⟩ 0 1 (.is 1), .int .i64 15, .int .i64 11, .str 0 0, .float .f64 0, .slice ⟨.d7, .d2, .d3, .d1, .d4⟩ 0 2 (.is 2), .int .i64 26] true 0),
  (⟨.d4, .d0, .d1, .d1, .d4⟩, .cells 51 [.int .i64 15, .str 0 0, .float .f64 0, .nilSlice, .int .i64 23] false 0),
  (⟨.d7, .d2, .d3, .d1, .d4⟩, .cells 51 [.int .i64 18, .str 1 60, .float .f64 0, .slice ⟨.d1, .d1, .d2, .d1, .d4⟩ 0 2 (.is 2), .int .i64 34, .int .i64 8, .str 0 0, .float .f64 0, .slice ⟨.d3, .d2, .d3, .d1, .d4⟩ 0 1 (.more 5), .int .i64 39] false 0),
  (⟨.d1, .d1, .d2, .d1, .d4⟩, .cells 51 [.int .i64 14, .str 1 105, .float .f64 0, .nilSlice, .int .i64 32, .int .i64 15, .str 0 0, .float .f64 4630404104378646528, .nilSlice, .int .i64 36] false 0),
  (⟨.d3, .d2, .d3, .d1, .d4⟩, .cells 51 [.int .i64 9, .str 1 105, .float .f64 0, .slice ⟨.d7, .d1, .d3, .d1, .d4⟩ 0 1 (.is 1), .int .i64 41] true 0),
  (⟨.d7, .d1, .d3, .d1, .d4⟩, .cells 51 [.int .i64 18, .str 1 43, .float .f64 0, .slice ⟨.d6, .d0, .d3, .d1, .d4⟩ 0 2 (.is 2), .int .i64 51] false 0),
  (⟨.d6, .d0, .d3, .d1, .d4⟩, .cells 51 [.int .i64 14, .str 1 105, .float .f64 0, .nilSlice, .int .i64 49, .int .i64 15, .str 0 0, .float .f64 4607182418800017408, .nilSlice, .int .i64 53] false 0)]⟩
def faceRow38 : Row := ⟨[.str 59 5960308038610897063766289614726580392604317199350810497930169031463423894195269917944714329576086111172720065427815811827856893219315471315558], .tup [.agg [.int .i64 1, .str 0 0, .float .f64 0, .slice ⟨.d3, .d4, .d3, .d1, .d4⟩ 0 1 (.more 5), .int .i64 0], .int .i64 0, .int .i64 0], [
  (⟨.d3, .d4, .d3, .d1, .d4⟩, .cells 51 [.int .i64 2, .str 0 0, .float .f64 0, .slice ⟨.d7, .d3, .d3, .d1, .d4⟩ 0 2 (.more 5), .int .i64 0] true 0),
  (⟨.d7, .d3, .d3, .d1, .d4⟩, .cells 51 [.int .i64 14, .str 0 0, .float .f64 0, .nilSlice, .int .i64 0, .int .i64 4, .str 0 0, .float .f64 0, .slice ⟨.d5, .d3, .d3, .d1, .d4⟩ 0 1 (.is 1), .int .i64 9] true 0),
  (⟨.d5, .d3, .d3, .d1, .d4⟩, .cells 51 [.int .i64 8, .str 0 0, .float .f64 0, .slice ⟨.d1, .d3, .d3, .d1, .d4⟩ 0 2 (.more 5), .int .i64 13] false 0),
  (⟨.d1, .d3, .d3, .d1, .d4⟩, .cells 51 [.int .i64 9, .str 1 105, .float .f64 0, .slice ⟨.d4, .d0, .d1, .d1, .d4⟩ 0 1 (.is 1), .int .i64 15, .int .i64 11, .str 0 0, .float .f64 0, .slice ⟨.d7, .d2, .d3, .d1, .d4⟩ 0 2 (.is 2), .int .i64 26] true 0),
  (⟨.d4, .d0, .d1, .d1, .d4⟩, .cells 51 [.int .i64 15, .str 0 0, .float .f64 0, .nilSlice, .int .i64 23] false 0),
  (⟨.d7, .d2, .d3, .d1, .d4⟩, .cells 51 [.int .i64 18, .str 1 60, .float .f64 0, .slice ⟨.d1, .d1, .d2, .d1, .d4⟩ 0 2 (.is 2), .int .i64 34, .int .i64 8, .str 0 0, .float .f64 0, .slice ⟨.d3, .d2, .d3, .d1, .d4⟩ 0 1 (.more 5), .int .i64 39] false 0),
  (⟨.d1, .d1, .d2, .d1, .d4⟩, .cells 51 [.int .i64 14, .str 1 105, .float .f64 0, .nilSlice, .int .i64 32, .int .i64 15, .str 0 0, .float .f64 4630544841867001856, .nilSlice, .int .i64 36] false 0),
  (⟨.d3, .d2, .d3, .d1, .d4⟩, .cells 51 [.int .i64 9, .str 1 105, .float .f64 0, .slice ⟨.d7, .d1, .d3, .d1, .d4⟩ 0 1 (.is 1), .int .i64 41] true 0),
  (⟨.d7, .d1, .d3, .d1, .d4⟩, .cells 51 [.int .i64 18, .str 1 43, .float .f64 0, .slice ⟨.d6, .d0, .d3, .d1, .d4⟩ 0 2 (.is 2), .int .i64 51] false 0),
  (⟨.d6, .d0, .d3, .d1, .d4⟩, .cells 51 [.int .i64 14, .str 1 105, .float .f64 0, .nilSlice, .int .i64 49, .int .i64 15, .str 0 0, .float .f64 4607182418800017408, .nilSlice, .int .i64 53] false 0)]⟩
def faceRow39 : Row := ⟨[.str 59 5960308038610897063766289614726580392604317199350810625244917552368804285973125443530849395292860715293735730186593896476688128427859607777894], .tup [.agg [.int .i64 1, .str 0 0, .float .f64 0, .slice ⟨.d3, .d4, .d3, .d1, .d4⟩ 0 1 (.more 5), .int .i64 0], .int .i64 0, .int .i64 0], [
  (⟨.d3, .d4, .d3, .d1, .d4⟩, .cells 51 [.int .i64 2, .str 0 0, .float .f64 0, .slice ⟨.d7, .d3, .d3, .d1, .d4⟩ 0 2 (.more 5), .int .i64 0] true 0),
  (⟨.d7, .d3, .d3, .d1, .d4⟩, .cells 51 [.int .i64 14, .str 0 0, .float .f64 0, .nilSlice, .int .i64 0, .int .i64 4, .str 0 0, .float .f64 0, .slice ⟨.d5, .d3, .d3, .d1, .d4⟩ 0 1 (.is 1), .int .i64 9] true 0),
  (⟨.d5, .d3, .d3, .d1, .d4⟩, .cells 51 [.int .i64 8, .str 0 0, .float .f64 0, .slice ⟨.d1, .d3, .d3, .d1, .d4⟩ 0 2 (.more 5), .int .i64 13] false 0),
  (⟨.d1, .d3, .d3, .d1, .d4⟩, .cells 51 [.int .i64 9, .str 1 105, .float .f64 0, .slice ⟨.d4, .d0, .d1, .d1, .d4⟩ 0 1 (.is 1), .int .i64 15, .int .i64 11, .str 0 0, .float .f64 0, .slice ⟨.d7, .d2, .d3, .d1, .d4⟩ 0 2 (.is 2), .int .i64 26] true 0),
  (⟨.d4, .d0, .d1, .d1, .d4⟩, .cells 51 [.int .i64 15, .str 0 0, .float .f64 0, .nilSlice, .int .i64 23] false 0),
  (⟨.d7, .d2, .d3, .d1, .d4⟩, .cells 51 [.int .i64 18, .str 1 60, .float .f64 0, .slice ⟨.d1, .d1, .d2, .d1, .d4⟩ 0 2 (.is 2), .int .i64 34, .int .i64 8, .str 0 0, .float .f64 0, .slice ⟨.d3, .d2, .d3, .d1, .d4⟩ 0 1 (.more 5), .int .i64 39] false 0),
  (⟨.d1, .d1, .d2, .d1, .d4⟩, .cells 51 [.int .i64 14, .str 1 105, .float .f64 0, .nilSlice, .int .i64 32, .int .i64 15, .str 0 0, .float .f64 4630685579355357184, .nilSlice, .int .i64 36] false 0),
  (⟨.d3, .d2, .d3, .d1, .d4⟩, .cells 51 [.int .i64 9, .str 1 105, .float .f64 0, .slice ⟨.d7, .d1, .d3, .d1, .d4⟩ 0 1 (.is 1), .int .i64 41] true 0),
  (⟨.d7, .d1, .d3, .d1, .d4⟩, .cells 51 [.int .i64 18, .str 1 43, .float .f64 0, .slice ⟨.d6, .d0, .d3, .d1, .d4⟩ 0 2 (.is 2), .int .i64 51] false 0),
  (⟨.d6, .d0, .d3, .d1, .d4⟩, .cells 51 [.int .i64 14, .str 1 105, .float .f64 0, .nilSlice, .int .i64 49, .int .i64 15, .str 0 0, .float .f64 4607182418800017408, .nilSlice, .int .i64 53] false 0)]⟩
def faceRow40 : Row := ⟨[.str 59 5960308038610897063766289614726580392604317199350809479909504100630167402127807961402454643942345429001942464798055111530366508563495755149926], .tup [.agg [.int .i64 1, .str 0 0, .float .f64 0, .slice ⟨.d3, .d4, .d3, .d1, .d4⟩ 0 1 (.more 5), .int .i64 0], .int .i64 0, .int .i64 0], [
  (⟨.d3, .d4, .d3, .d1, .d4⟩, .cells 51 [.int .i64 2, .str 0 0, .float .f64 0, .slice ⟨.d7, .d3, .d3, .d1, .d4⟩ 0 2 (.more 5), .int .i64 0] true 0),
  (⟨.d7, .d3, .d3, .d1, .d4⟩, .cells 51 [.int .i64 14, .str 0 0, .float .f64 0, .nilSlice, .int .i64 0, .int .i64 4, .str 0 0, .float .f64 0, .slice ⟨.d5, .d3, .d3, .d1, .d4⟩ 0 1 (.is 1), .int .i64 9] true 0),
  (⟨.d5, .d3, .d3, .d1, .d4⟩, .cells 51 [.int .i64 8, .str 0 0, .float .f64 0, .slice ⟨.d1, .d3, .d3, .d1, .d4⟩ 0 2 (.more 5), .int .i64 13] false 0),
  (⟨.d1, .d3, .d3, .d1, .d4⟩, .cells 51 [.int .i64 9, .str 1 105, .float .f64 0, .slice ⟨.d4, .d0, .d1, .d1, .d4⟩ 0 1 (.is 1), .int .i64 15, .int .i64 11, .str 0 0, .float .f64 0, .slice ⟨.d7, .d2, .d3, .d1, .d4⟩ 0 2 (.is 2), .int .i64 26] true 0),
  (⟨.d4, .d0, .d1, .d1, .d4⟩, .cells 51 [.int .i64 15, .str 0 0, .float .f64 0, .nilSlice, .int .i64 23] false 0),
  (⟨.d7, .d2, .d3, .d1, .d4⟩, .cells 51 [.int .i64 18, .str 1 60, .float .f64 0, .slice ⟨.d1, .d1, .d2, .d1, .d4⟩ 0 2 (.is 2), .int .i64 34, .int .i64 8, .str 0 0, .float .f64 0, .slice ⟨.d3, .d2, .d3, .d1, .d4⟩ 0 1 (.more 5), .int .i64 39] false 0),
  (⟨.d1, .d1, .d2, .d1, .d4⟩, .cells 51 [.int .i64 14, .str 1 105, .float .f64 0, .nilSlice, .int .i64 32, .int .i64 15, .str 0 0, .float .f64 4630826316843712512, .nilSlice, .int .i64 36] false 0),
  (⟨.d3, .d2, .d3, .d1, .d4⟩, .cells 51 [.int .i64 9, .str 1 105, .float .f64 0, .slice ⟨.d7, .d1, .d3, .d1, .d4⟩ 0 1 (.is 1), .int .i64 41] true 0),
  (⟨.d7, .d1, .d3, .d1, .d4⟩, .cells 51 [.int .i64 18, .str 1 43, .float .f64 0, .slice ⟨.d6, .d0, .d3, .d1, .d4⟩ 0 2 (.is 2), .int .i64 51] false 0),
  (⟨.d6, .d0, .d3, .d1, .d4⟩, .cells 51 [.int .i64 14, .str 1 105, .float .f64 0, .nilSlice, .int .i64 49, .int .i64 15, .str 0 0, .float .f64 4607182418800017408, .nilSlice, .int .i64 53] false 0)]⟩
def faceRow41 : Row := ⟨[.str 59 5960308038610897063766289614726580392604317199350809607224252621535547793905663486988589709659120033122958129556833196179197743772039891612262], .tup [.agg [.int .i64 1, .str 0 0, .float .f64 0, .slice ⟨.d3, .d4, .d3, .d1, .d4⟩ 0 1 (.more 5), .int .i64 0], .int .i64 0, .int .i64 0], [
  (⟨.d3, .d4, .d3, .d1, .d4⟩, .cells 51 [.int .i64 2, .str 0 0, .float .f64 0, .slice ⟨.d7, .d3, .d3, .d1, .d4⟩ 0 2 (.more 5), .int .i64 0] true 0),
  (⟨.d7, .d3, .d3, .d1, .d4⟩, .cells 51 [.int .i64 14, .str 0 0, .float .f64 0, .nilSlice, .int .i64 0, .int .i64 4, .str 0 0, .float .f64 0, .slice ⟨.d5, .d3, .d3, .d1, .d4⟩ 0 1 (.is 1), .int .i64 9] true 0),
  (⟨.d5, .d3, .d3, .d1, .d4⟩, .cells 51 [.int .i64 8, .str 0 0, .float .f64 0, .slice ⟨.d1, .d3, .d3, .d1, .d4⟩ 0 2 (.more 5), .int .i64 13] false 0),
  (⟨.d1, .d3, .d3, .d1, .d4⟩, .cells 51 [.int .i64 9, .str 1 105, .float .f64 0, .slice ⟨.d4, .d0, .d1, .d1, .d4⟩ 0 1 (.is 1), .int .i64 15, .int .i64 11, .str 0 0, .float .f64 0, .slice ⟨.d7, .d2, .d3, .d1, .d4⟩ 0 2 (.is 2), .int .i64 26] true 0),
  (⟨.d4, .d0, .d1, .d1, .d4⟩, .cells 51 [.int .i64 15, .str 0 0, .float .f64 0, .nilSlice, .int .i64 23] false 0),
  (⟨.d7, .d2, .d3, .d1, .d4⟩, .cells 51 [.int .i64 18, .str 1 60, .float .f64 0, .slice ⟨.d1, .d1, .d2, .d1, .d4⟩ 0 2 (.is 2), .int .i64 34, .int .i64 8, .str 0 0, .float .f64 0, .slice ⟨.d3, .d2, .d3, .d1, .d4⟩ 0 1 (.more 5), .int .i64 39] false 0),
  (⟨.d1, .d1, .d2, .d1, .d4⟩, .cells 51 [.int .i64 14, .str 1 105, .float .f64 0, .nilSlice, .int .i64 32, .int .i64 15, .str 0 0, .float .f64 4630967054332067840, .nilSlice, .int .i64 36] false 0),
  (⟨.d3, .d2, .d3, .d1, .d4⟩, .cells 51 [.int .i64 9, .str 1 105, .float .f64 0, .slice ⟨.d7, .d1, .d3, .d1, .d4⟩ 0 1 (.is 1), .int .i64 41] true 0),
  (⟨.d7, .d1, .d3, .d1, .d4⟩, .cells 51 [.int .i64 18, .str 1 43, .float .f64 0, .slice ⟨.d6, .d0, .d3, .d1, .d4⟩ 0 2 (.is 2), .int .i64 51] false 0),
  (⟨.d6, .d0, .d3, .d1, .d4⟩, .cells 51 [.int .i64 14, .str 1 105, .float .f64 0, .nilSlice, .int .i64 49, .int .i64 15, .str 0 0, .float .f64 4607182418800017408, .nilSlice, .int .i64 53] false 0)]⟩
def faceRow42 : Row := ⟨[.str 59 5960308038610897063766289614726580392604317199350809734539001142440928185683519012574724775375894637243973794315611280828028978980584028074598], .tup [.agg [.int .i64 1, .str 0 0, .float .f64 0, .slice ⟨.d3, .d4, .d3, .d1, .d4⟩ 0 1 (.more 5), .int .i64 0], .int .i64 0, .int .i64 0], [
  (⟨.d3, .d4, .d3, .d1, .d4⟩, .cells 51 [.int .i64 2, .str 0 0, .float .f64 0, .slice ⟨.d7, .d3, .d3, .d1, .d4⟩ 0 2 (.more 5), .int .i64 0] true 0),
  (⟨.d7, .d3, .d3, .d1, .d4⟩, .cells 51 [.int .i64 14, .str 0 0, .float .f64 0, .nilSlice, .int .i64 0, .int .i64 4, .str 0 0, .float .f64 0, .slice ⟨.d5, .d3, .d3, .d1, .d4⟩ 0 1 (.is 1), .int .i64 9] true 0),
  (⟨.d5, .d3, .d3, .d1, .d4⟩, .cells 51 [.int .i64 8, .str 0 0, .float .f64 0, .slice ⟨.d1, .d3, .d3, .d1, .d4⟩ 0 2 (.more 5), .int .i64 13] false 0),
  (⟨.d1, .d3, .d3, .d1, .d4⟩, .cells 51 [.int .i64 9, .str 1 105, .float .f64 0, .slice ⟨.d4, .d0, .d1, .d1, .d4⟩ 0 1 (.is 1), .int .i64 15, .int .i64 11, .str 0 0, .float .f64 0, .slice ⟨.d7, .d2, .d3, .d1, .d4⟩ 0 2 (.is 2), .int .i64 26] true 0),
  (⟨.d4, .d0, .d1, .d1, .d4⟩, .cells 51 [.int .i64 15, .str 0 0, .float .f64 0, .nilSlice, .int .i64 23] false 0),
  (⟨.d7, .d2, .d3, .d1, .d4⟩, .cells 51 [.int .i64 18, .str 1 60, .float .f64 0, .slice ⟨.d1, .d1, .d2, .d1, .d4⟩ 0 2 (.is 2), .int .i64 34, .int .i64 8, .str 0 0, .float .f64 0, .slice ⟨.d3, .d2, .d3, .d1, .d4⟩ 0 1 (.more 5), .int .i64 39] false 0),
  (⟨.d1, .d1, .d2, .d1, .d4⟩, .cells 51 [.int .i64 14, .str 1 105, .float .f64 0, .nilSlice, .int .i64 32, .int .i64 15, .str 0 0, .float .f64 4631107791820423168, .nilSlice, .int .i64 36] false 0),
  (⟨.d3, .d2, .d3, .d1, .d4⟩, .cells 51 [.int .i64 9, .str 1 105, .float .f64 0, .slice ⟨.d7, .d1, .d3, .d1, .d4⟩ 0 1 (.is 1), .int .i64 41] true 0),
  (⟨.d7, .d1, .d3, .d1, .d4⟩, .cells 51 [.int .i64 18, .str 1 43, .float .f64 0, .slice ⟨.d6, .d0, .d3, .d1, .d4⟩ 0 2 (.is 2), .int .i64 51] false 0),
  (⟨.d6, .d0, .d3, .d1, .d4⟩, .cells 51 [.int .i64 14, .str 1 105, .float .f64 0, .nilSlice, .int .i64 49, .int .i64 15, .str 0 0, .float .f64 4607182418800017408, .nilSlice, .int .i64 53] false 0)]⟩
def faceRow43 : Row := ⟨[.str 59 5960308038610897063766289614726580392604317199350809861853749663346308577461374538160859841092669241364989459074389365476860214189128164536934], .tup [.agg [.int .i64 1, .str 0 0, .float .f64 0, .slice ⟨.d3, .d4, .d3, .d1, .d4⟩ 0 1 (.more 5), .int .i64 0], .int .i64 0, .int .i64 0], [
  (⟨.d3, .d4, .d3, .d1, .d4⟩, .cells 51 [.int .i64 2, .str 0 0, .float .f64 0, .slice ⟨.d7, .d3, .d3, .d1, .d4⟩ 0 2 (.more 5), .int .i64 0] true 0),
  (⟨.d7, .d3, .d3, .d1, .d4⟩, .cells 51 [.int .i64 14, .str 0 0, .float .f64 0, .nilSlice, .int .i64 0, .int .i64 4, .str 0 0, .float .f64 0, .slice ⟨.d5, .d3, .d3, .d1, .d4⟩ 0 1 (.is 1), .int .i64 9] true 0),
  (⟨.d5, .d3, .d3, .d1, .d4⟩, .cells 51 [.int .i64 8, .str 0 0, .float .f64 0, .slice ⟨.d1, .d3, .d3, .d1, .d4⟩ 0 2 (.more 5), .int .i64 13] false 0),
  (⟨.d1, .d3, .d3, .d1, .d4⟩, .cells 51 [.int .i64 9, .str 1 105, .float .f64 0, .slice ⟨.d4, .d0, .d1, .d1, .d4⟩ 0 1 (.is 1), .int .i64 15, .int .i64 11, .str 0 0, .float .f64 0, .slice ⟨.d7, .d2, .d3, .d1, .d4⟩ 0 2 (.is 2), .int .i64 26] true 0),
  (⟨.d4, .d0, .d1, .d1, .d4⟩, .cells 51 [.int .i64 15, .str 0 0, .float .f64 0, .nilSlice, .int .i64 23] false 0),
  (⟨.d7, .d2, .d3, .d1, .d4⟩, .cells 51 [.int .i64 18, .str 1 60, .float .f64 0, .slice ⟨.d1, .d1, .d2, .d1, .d4⟩ 0 2 (.is 2), .int .i64 34, .int .i64 8, .str 0 0, .float .f64 0, .slice ⟨.d3, .d2, .d3, .d1, .d4⟩ 0 1 (.more 5), .int .i64 39] false 0),
  (⟨.d1, .d1, .d2, .d1, .d4⟩, .cells 51 [.int .i64 14, .str 1 105, .float .f64 0, .nilSlice, .int .i64 32, .int .i64 15, .str 0 0, .float .f64 4631248529308778496, .nilSlice, .int .i64 36] false 0),
  (⟨.d3, .d2, .d3, .d1, .d4⟩, .cells 51 [.int .i64 9, .str 1 105, .float .f64 0, .slice ⟨.d7, .d1, .d3, .d1, .d4⟩ 0 1 (.is 1), .int .i64 41] true 0),
  (⟨.d7, .d1, .d3, .d1, .d4⟩, .cells 51 [.int .i64 18, .str 1 43, .float .f64 0, .slice ⟨.d6, .d0, .d3, .d1, .d4⟩ 0 2 (.is 2), .int .i64 51] false 0),
  (⟨.d6, .d0, .d3, .d1, .d4⟩, .cells 51 [.int .i64 14, .str 1 105, .float .f64 0, .nilSlice, .int .i64 49, .int .i64 15, .str 0 0, .float .f64 4607182418800017408, .nilSlice, .int .i64 53] false 0)]⟩
def faceRow44 : Row := ⟨[.str 59 5960308038610897063766289614726580392604317199350809989168498184251688969239230063746994906809443845486005123833167450125691449397672300999270], .tup [.agg [.int .i64 1, .str 0 0, .float .f64 0, .slice ⟨.d3, .d4, .d3, .d1, .d4⟩ 0 1 (.more 5), .int .i64 0], .int .i64 0, .int .i64 0], [
  (⟨.d3, .d4, .d3, .d1, .d4⟩, .cells 51 [.int .i64 2, .str 0 0, .float .f64 0, .slice ⟨.d7, .d3, .d3, .d1, .d4⟩ 0 2 (.more 5), .int .i64 0] true 0),
  (⟨.d7, .d3, .d3, .d1, .d4⟩, .cells 51 [.int .i64 14, .str 0 0, .float .f64 0, .nilSlice, .int .i64 0, .int .i64 4, .str 0 0, .float .f64 0, .slice ⟨.d5, .d3, .d3, .d1, .d4⟩ 0 1 (.is 1), .int .i64 9] true 0),
  (⟨.d5, .d3, .d3, .d1, .d4⟩, .cells 51 [.int .i64 8, .str 0 0, .float .f64 0, .slice ⟨.d1, .d3, .d3, .d1, .d4⟩ 0 2 (.more 5), .int .i64 13] false 0),
  (⟨.d1, .d3, .d3, .d1, .d4⟩, .cells 51 [.int .i64 9, .str 1 105, .float .f64 0, .slice ⟨.d4, .d0, .d1, .d1, .d4⟩ 0 1 (.is 1), .int .i64 15, .int .i64 11, .str 0 0, .float .f64 0, .slice ⟨.d7, .d2, .d3, .d1, .d4⟩ 0 2 (.is 2), .int .i64 26] true 0),
  (⟨.d4, .d0, .d1, .d1, .d4⟩, .cells 51 [.int .i64 15, .str 0 0, .float .f64 0, .nilSlice, .int .i64 23] false 0),
  (⟨.d7, .d2, .d3, .d1, .d4⟩, .cells 51 [.int .i64 18, .str 1 60, .float .f64 0, .slice ⟨.d1, .d1, .d2, .d1, .d4⟩ 0 2 (.is 2), .int .i64 34, .int .i64 8, .str 0 0, .float .f64 0, .slice ⟨.d3, .d2, .d3, .d1, .d4⟩ 0 1 (.more 5), .int .i64 39] false 0),
  (⟨.d1, .d1, .d2, .d1, .d4⟩, .cells 51 [.int .i64 14, .str 1 105, .float .f64 0, .nilSlice, .int .i64 32, .int .i64 15, .str 0 0, .float .f64 4631389266797133824, .nilSlice, .int .i64 36] false 0),
  (⟨.d3, .d2, .d3, .d1, .d4⟩, .cells 51 [.int .i64 9, .str 1 105, .float .f64 0, .slice ⟨.d7, .d1, .d3, .d1, .d4⟩ 0 1 (.is 1), .int .i64 41] true 0),
  (⟨.d7, .d1, .d3, .d1, .d4⟩, .cells 51 [.int .i64 18, .str 1 43, .float .f64 0, .slice ⟨.d6, .d0, .d3, .d1, .d4⟩ 0 2 (.is 2), .int .i64 51] false 0),
  (⟨.d6, .d0, .d3, .d1, .d4⟩, .cells 51 [.int .i64 14, .str 1 105, .float .f64 0, .nilSlice, .int .i64 49, .int .i64 15, .str 0 0, .float .f64 4607182418800017408, .nilSlice, .int .i64 53] false 0)]⟩
def faceRow45 : Row := ⟨[.str 59 5960308038610897063766289614726580392604317199350810116483246705157069361017085589333129972526218449607020788591945534774522684606216437461606], .tup [.agg [.int .i64 1, .str 0 0, .float .f64 0, .slice ⟨.d3, .d4, .d3, .d1, .d4⟩ 0 1 (.more 5), .int .i64 0], .int .i64 0, .int .i64 0], [
  (⟨.d3, .d4, .d3, .d1, .d4⟩, .cells 51 [.int .i64 2, .str 0 0, .float .f64 0, .slice ⟨.d7, .d3, .d3, .d1, .d4⟩ 0 2 (.more 5), .int .i64 0] true 0),
  (⟨.d7, .d3, .d3, .d1, .d4⟩, .cells 51 [.int .i64 14, .str 0 0, .float .f64 0, .nilSlice, .int .i64 0, .int .i64 4, .str 0 0, .float .f64 0, .slice ⟨.d5, .d3, .d3, .d1, .d4⟩ 0 1 (.is 1), .int .i64 9] true 0),
  (⟨.d5, .d3, .d3, .d1, .d4⟩, .cells 51 [.int .i64 8, .str 0 0, .float .f64 0, .slice ⟨.d1, .d3, .d3, .d1, .d4⟩ 0 2 (.more 5), .int .i64 13] false 0),
  (⟨.d1, .d3, .d3, .d1, .d4⟩, .cells 51 [.int .i64 9, .str 1 105, .float .f64 0, .slice ⟨.d4, .d0, .d1, .d1, .d4⟩ 0 1 (.is 1), .int .i64 15, .int .i64 11, .str 0 0, .float .f64 0, .slice ⟨.d7, .d2, .d3, .d1, .d4⟩ 0 2 (.is 2), .int .i64 26] true 0),
  (⟨.d4, .d0, .d1, .d1, .d4⟩, .cells 51 [.int .i64 15, .str 0 0, .float .f64 0, .nilSlice, .int .i64 23] false 0),
  (⟨.d7, .d2, .d3, .d1, .d4⟩, .cells 51 [.int .i64 18, .str 1 60, .float .f64 0, .slice ⟨.d1, .d1, .d2, .d1, .d4⟩ 0 2 (.is 2), .int .i64 34, .int .i64 8, .str 0 0, .float .f64 0, .slice ⟨.d3, .d2, .d3, .d1, .d4⟩ 0 1 (.more 5), .int .i64 39] false 0),
  (⟨.d1, .d1, .d2, .d1, .d4⟩, .cells 51 [.int .i64 14, .str 1 105, .float .f64 0, .nilSlice, .int .i64 32, .int .i64 15, .str 0 0, .float .f64 4631530004285489152, .nilSlice, .int .i64 36] false 0),
  (⟨.d3, .d2, .d3, .d1, .d4⟩, .cells 51 [.int .i64 9, .str 1 105, .float .f64 0, .slice ⟨.d7, .d1, .d3, .d1, .d4⟩ 0 1 (.is 1), .int .i64 41] true 0),
  (⟨.d7, .d1, .d3, .d1, .d4⟩, .cells 51 [.int .i64 18, .str 1 43, .float .f64 0, .slice ⟨.d6, .d0, .d3, .d1, .d4⟩ 0 2 (.is 2), .int .i64 51] false 0),
  (⟨.d6, .d0, .d3, .d1, .d4⟩, .cells 51 [.int .i64 14, .str 1 105, .float .f64 0, .nilSlice, .int .i64 49, .int .i64 15, .str 0 0, .float .f64 4607182418800017408, .nilSlice, .int .i64 53] false 0)]⟩
def faceRow46 : Row := ⟨[.str 59 5960308038610897063766289614726580392604317199350810243797995226062449752794941114919265038242993053728036453350723619423353919814760573923942], .tup [.agg [.int .i64 1, .str 0 0, .float .f64 0, .slice ⟨.d3, .d4, .d3, .d1, .d4⟩ 0 1 (.more 5), .int .i64 0], .int .i64 0, .int .i64 0], [
  (⟨.d3, .d4, .d3, .d1, .d4⟩, .cells 51 [.int .i64 2, .str 0 0, .float .f64 0, .slice ⟨.d7, .d3, .d3, .d1, .d4⟩ 0 2 (.more 5), .int .i64 0] true 0),
  (⟨.d7, .d3, .d3, .d1, .d4⟩, .cells 51 [.int .i64 14, .str 0 0, .float .f64 0, .nilSlice, .int .i64 0, .int .i64 4, .str 0 0, .float .f64 0, .slice ⟨.d5, .d3, .d3, .d1, .d4⟩ 0 1 (.is 1), .int .i64 9] true 0),
  (⟨.d5, .d3, .d3, .d1, .d4⟩, .cells 51 [.int .i64 8, .str 0 0, .float .f64 0, .slice ⟨.d1, .d3, .d3, .d1, .d4⟩ 0 2 (.more 5), .int .i64 13] false 0),
  (⟨.d1, .d3, .d3, .d1, .d4⟩, .cells 51 [.int .i64 9, .str 1 105, .float .f64 0, .slice ⟨.d4, .d0, .d1, .d1, .d4⟩ 0 1 (.is 1), .int .i64 15, .int .i64 11, .str 0 0, .float .f64 0, .slice ⟨.d7, .d2, .d3, .d1, .d4⟩ 0 2 (.is 2), .int .i64 26] true 0),
  (⟨.d4, .d0, .d1, .d1, .d4⟩, .cells 51 [.int .i64 15, .str 0 0, .float .f64 0, .nilSlice, .int .i64 23] false 0),
  (⟨.d7, .d2, .d3, .d1, .d4⟩, .cells 51 [.int .i64 18, .str 1 60, .float .f64 0, .slice ⟨.d1, .d1, .d2, .d1, .d4⟩ 0 2 (.is 2), .int .i64 34, .int .i64 8, .str 0 0, .float .f64 0, .slice ⟨.d3, .d2, .d3, .d1, .d4⟩ 0 1 (.more 5), .int .i64 39] false 0),
  (⟨.d1, .d1, .d2, .d1, .d4⟩, .cells 51 [.int .i64 14, .str 1 105, .float .f64 0, .nilSlice, .int .i64 32, .int .i64 15, .str 0 0, .float .f64 4631670741773844480, .nilSlice, .int .i64 36] false 0),
  (⟨.d3, .d2, .d3, .d1, .d4⟩, .cells 51 [.int .i64 9, .str 1 105, .float .f64 0, .slice ⟨.d7, .d1, .d3, .d1, .d4⟩ 0 1 (.is 1), .int .i64 41] true 0),
  (⟨.d7, .d1, .d3, .d1, .d4⟩, .cells 51 [.int .i64 18, .str 1 43, .float .f64 0, .slice ⟨.d6, .d0, .d3, .d1, .d4⟩ 0 2 (.is 2), .int .i64 51] false 0),
  (⟨.d6, .d0, .d3, .d1, .d4⟩, .cells 51 [.int .i64 14, .str 1 105, .float .f64 0, .nilSlice, .int .i64 49, .int .i64 15, .str 0 0, .float .f64 4607182418800017408, .nilSlice, .int .i64 53] false 0)]⟩
def faceRow47 : Row := ⟨[.str 59 5960308038610897063766289614726580392604317199350810371112743746967830144572796640505400103959767657849052118109501704072185155023304710386278], .tup [.agg [.int .i64 1, .str 0 0, .float .f64 0, .slice ⟨.d3, .d4, .d3, .d1, .d4⟩ 0 1 (.more 5), .int .i64 0], .int .i64 0, .int .i64 0], [
  (⟨.d3, .d4, .d3, .d1, .d4⟩, .cells 51 [.int .i64 2, .str 0 0, .float .f64 0, .slice ⟨.d7, .d3, .d3, .d1, .d4⟩ 0 2 (.more 5), .int .i64 0] true 0),
  (⟨.d7, .d3, .d3, .d1, .d4⟩, .cells 51 [.int .i64 14, .str 0 0, .float .f64 0, .nilSlice, .int .i64 0, .int .i64 4, .str 0 0, .float .f64 0, .slice ⟨.d5, .d3, .d3, .d1, .d4⟩ 0 1 (.is 1), .int .i64 9] true 0),
  (⟨.d5, .d3, .d3, .d1, .d4⟩, .cells 51 [.int .i64 8, .str 0 0, .float .f64 0, .slice ⟨.d1, .d3, .d3, .d1, .d4⟩ 0 2 (.more 5), .int .i64 13] false 0),
  (⟨.d1, .d3, .d3, .d1, .d4⟩, .cells 51 [.int .i64 9, .str 1 105, .float .f64 0, .slice ⟨.d4, .d0, .d1, .d1, .d4⟩ 0 1 (.is 1), .int .i64 15, .int .i64 11, .str 0 0, .float .f64 0, .slice ⟨.d7, .d2, .d3, .d1, .d4⟩ 0 2 (.is 2), .int .i64 26] true 0),
  (⟨.d4, .d0, .d1, .d1, .d4⟩, .cells 51 [.int .i64 15, .str 0 0, .float .f64 0, .nilSlice, .int .i64 23] false 0),
  (⟨.d7, .d2, .d3, .d1, .d4⟩, .cells 51 [.int .i64 18, .str 1 60, .float .f64 0, .slice ⟨.d1, .d1, .d2, .d1, .d4⟩ 0 2 (.is 2), .int .i64 34, .int .i64 8, .str 0 0, .float .f64 0, .slice ⟨.d3, .d2, .d3, .d1, .d4⟩ 0 1 (.more 5), .int .i64 39] false 0),
  (⟨.d1, .d1, .d2, .d1, .d4⟩, .cells 51 [.int .i64 14, .str 1 105, .float .f64 0, .nilSlice, .int .i64 32, .int .i64 15, .str 0 0, .float .f64 4631811479262199808, .nilSlice, .int .i64 36] false 0),
  (⟨.d3, .d2, .d3, .d1, .d4⟩, .cells 51 [.int .i64 9, .str 1 105, .float .f64 0, .slice ⟨.d7, .d1, .d3, .d1, .d4⟩ 0 1 (.is 1), .int .i64 41] true 0),
  (⟨.d7, .d1, .d3, .d1, .d4⟩, .cells 51 [.int .i64 18, .str 1 43, .float .f64 0, .slice ⟨.d6, .d0, .d3, .d1, .d4⟩ 0 2 (.is 2), .int .i64 51] false 0),
  (⟨.d6, .d0, .d3, .d1, .d4⟩, .cells 51 [.int .i64 14, .str 1 105, .float .f64 0, .nilSlice, .int .i64 49, .int .i64 15, .str 0 0, .float .f64 4607182418800017408, .nilSlice, .int .i64 53] false 0)]⟩
def faceRow48 : Row := ⟨[.str 59 5960308038610897063766289614726580392604317199350810498427492267873210536350652166091535169676542261970067782868279788721016390231848846848614], .tup [.agg [.int .i64 1, .str 0 0, .float .f64 0, .slice ⟨.d3, .d4, .d3, .d1, .d4⟩ 0 1 (.more 5), .int .i64 0], .int .i64 0, .int .i64 0], [
  (⟨.d3, .d4, .d3, .d1, .d4⟩, .cells 51 [.int .i64 2, .str 0 0, .float .f64 0, .slice ⟨.d7, .d3, .d3, .d1, .d4⟩ 0 2 (.more 5), .int .i64 0] true 0),
  (⟨.d7, .d3, .d3, .d1, .d4⟩, .cells 51 [.int .i64 14, .str 0 0, .float .f64 0, .nilSlice, .int .i64 0, .int .i64 4, .str 0 0, .float .f64 0, .slice ⟨.d5, .d3, .d3, .d1, .d4⟩ 0 1 (.is 1), .int .i64 9] true 0),
  (⟨.d5, .d3, .d3, .d1, .d4⟩, .cells 51 [.int .i64 8, .str 0 0, .float .f64 0, .slice ⟨.d1, .d3, .d3, .d1, .d4⟩ 0 2 (.more 5), .int .i64 13] false 0),
  (⟨.d1, .d3, .d3, .d1, .d4⟩, .cells 51 [.int .i64 9, .str 1 105, .float .f64 0, .slice ⟨.d4, .d0, .d1, .d1, .d4⟩ 0 1 (.is 1), .int .i64 15, .int .i64 11, .str 0 0, .float .f64 0, .slice ⟨.d7, .d2, .d3, .d1, .d4⟩ 0 2 (.is 2), .int .i64 26] true 0),
  (⟨.d4, .d0, .d1, .d1, .d4⟩, .cells 51 [.int .i64 15, .str 0 0, .float .f64 0, .nilSlice, .int .i64 23] false 0),
  (⟨.d7, .d2, .d3, .d1, .d4⟩, .cells 51 [.int .i64 18, .str 1 60, .float .f64 0, .slice ⟨.d1, .d1, .d2, .d1, .d4⟩ 0 2 (.is 2), .int .i64 34, .int .i64 8, .str 0 0, .float .f64 0, .slice ⟨.d3, .d2, .d3, .d1, .d4⟩ 0 1 (.more 5), .int .i64 39] false 0),
  (⟨.d1, .d1, .d2, .d1, .d4⟩, .cells 51 [.int .i64 14, .str 1 105, .float .f64 0, .nilSlice, .int .i64 32, .int .i64 15, .str 0 0, .float .f64 4631952216750555136, .nilSlice, .int .i64 36] false 0),
  (⟨.d3, .d2, .d3, .d1, .d4⟩, .cells 51 [.int .i64 9, .str 1 105, .float .f64 0, .slice ⟨.d7, .d1, .d3, .d1, .d4⟩ 0 1 (.is 1), .int .i64 41] true 0),
  (⟨.d7, .d1, .d3, .d1, .d4⟩, .cells 51 [.int .i64 18, .str 1 43, .float .f64 0, .slice ⟨.d6, .d0, .d3, .d1, .d4⟩ 0 2 (.is 2), .int .i64 51] false 0),
  (⟨.d6, .d0, .d3, .d1, .d4⟩, .cells 51 [.int .i64 14, .str 1 105, .float .f64 0, .nilSlice, .int .i64 49, .int .i64 15, .str 0 0, .float .f64 4607182418800017408, .nilSlice, .int .i64 53] false 0)]⟩
def faceRow49 : Row := ⟨[.str 59 5960308038610897063766289614726580392604317199350810625742240788778590928128507691677670235393316866091083447627057873369847625440392983310950], .tup [.agg [.int .i64 1, .str 0 0, .float .f64 0, .slice ⟨.d3, .d4, .d3, .d1, .d4⟩ 0 1 (.more 5), .int .i64 0], .int .i64 0, .int .i64 0], [
  (⟨.d3, .d4, .d3, .d1, .d4⟩, .cells 51 [.int .i64 2, .str 0 0, .float .f64 0, .slice ⟨.d7, .d3, .d3, .d1, .d4⟩ 0 2 (.more 5), .int .i64 0] true 0),
  (⟨.d7, .d3, .d3, .d1, .d4⟩, .cells 51 [.int .i64 14, .str 0 0, .float .f64 0, .nilSlice, .int .i64 0, .int .i64 4, .str 0 0, .float .f64 0, .slice ⟨.d5, .d3, .d3, .d1, .d4⟩ 0 1 (.is 1), .int .i64 9] true 0),
  (⟨.d5, .d3, .d3, .d1, .d4⟩, .cells 51 [.int .i64 8, .str 0 0, .float .f64 0, .slice ⟨.d1, .d3, .d3, .d1, .d4⟩ 0 2 (.more 5), .int .i64 13] false 0),
  (⟨.d1, .d3, .d3, .d1, .d4⟩, .cells 51 [.int .i64 9, .str 1 105, .float .f64 0, .slice ⟨.d4, .d0, .d1, .d1, .d4⟩ 0 1 (.is 1), .int .i64 15, .int .i64 11, .str 0 0, .float .f64 0, .slice ⟨.d7, .d2, .d3, .d1, .d4⟩ 0 2 (.is 2), .int .i64 26] true 0),
  (⟨.d4, .d0, .d1, .d1, .d4⟩, .cells 51 [.int .i64 15, .str 0 0, .float .f64 0, .nilSlice, .int .i64 23] false 0),
  (⟨.d7, .d2, .d3, .d1, .d4⟩, .cells 51 [.int .i64 18, .str 1 60, .float .f64 0, .slice ⟨.d1, .d1, .d2, .d1, .d4⟩ 0 2 (.is 2), .int .i64 34, .int .i64 8, .str 0 0, .float .f64 0, .slice ⟨.d3, .d2, .d3, .d1, .d4⟩ 0 1 (.more 5), .int .i64 39] false 0),
  (⟨.d1, .d1, .d2, .d1, .d4⟩, .cells 51 [.int .i64 14, .str 1 105, .float .f64 0, .nilSlice, .int .i64 32, .int .i64 15, .str 0 0, .float .f64 4632092954238910464, .nilSlice, .int .i64 36] false 0),
  (⟨.d3, .d2, .d3, .d1, .d4⟩, .cells 51 [.int .i64 9, .str 1 105, .float .f64 0, .slice ⟨.d7, .d1, .d3, .d1, .d4⟩ 0 1 (.is 1), .int .i64 41] true 0),
  (⟨.d7, .d1, .d3, .d1, .d4⟩, .cells 51 [.int .i64 18, .str 1 43, .float .f64 0, .slice ⟨.d6, .d0, .d3, .d1, .d4⟩ 0 2 (.is 2), .int .i64 51] false 0),
  (⟨.d6, .d0, .d3, .d1, .d4⟩, .cells 51 [.int .i64 14, .str 1 105, .float .f64 0, .nilSlice, .int .i64 49, .int .i64 15, .str 0 0, .float .f64 4607182418800017408, .nilSlice, .int .i64 53] false 0)]⟩
def faceRow50 : Row := ⟨[.str 59 5960308038610897063766289614726580392604317199350809480406827337039954044283190209549275484042801579799290182238519088423526005576029130682982], .tup [.agg [.int .i64 1, .str 0 0, .float .f64 0, .slice ⟨.d3, .d4, .d3, .d1, .d4⟩ 0 1 (.more 5), .int .i64 0], .int .i64 0, .int .i64 0], [
  (⟨.d3, .d4, .d3, .d1, .d4⟩, .cells 51 [.int .i64 2, .str 0 0, .float .f64 0, .slice ⟨.d7, .d3, .d3, .d1, .d4⟩ 0 2 (.more 5), .int .i64 0] true 0),
  (⟨.d7, .d3, .d3, .d1, .d4⟩, .cells 51 [.int .i64 14, .str 0 0, .float .f64 0, .nilSlice, .int .i64 0, .int .i64 4, .str 0 0, .float .f64 0, .slice ⟨.d5, .d3, .d3, .d1, .d4⟩ 0 1 (.is 1), .int .i64 9] true 0),
  (⟨.d5, .d3, .d3, .d1, .d4⟩, .cells 51 [.int .i64 8, .str 0 0, .float .f64 0, .slice ⟨.d1, .d3, .d3, .d1, .d4⟩ 0 2 (.more 5), .int .i64 13] false 0),
  (⟨.d1, .d3, .d3, .d1, .d4⟩, .cells 51 [.int .i64 9, .str 1 105, .float .f64 0, .slice ⟨.d4, .d0, .d1, .d1, .d4⟩ 0 1 (.is 1), .int .i64 15, .int .i64 11, .str 0 0, .float .f64 0, .slice ⟨.d7, .d2, .d3, .d1, .d4⟩ 0 2 (.is 2), .int .i64 26] true 0),
  (⟨.d4, .d0, .d1, .d1, .d4⟩, .cells 51 [.int .i64 15, .str 0 0, .float .f64 0, .nilSlice, .int .i64 23] false 0),
  (⟨.d7, .d2, .d3, .d1, .d4⟩, .cells 51 [.int .i64 18, .str 1 60, .float .f64 0, .slice ⟨.d1, .d1, .d2, .d1, .d4⟩ 0 2 (.is 2), .int .i64 34, .int .i64 8, .str 0 0, .float .f64 0, .slice ⟨.d3, .d2, .d3, .d1, .d4⟩ 0 1 (.more 5), .int .i64 39] false 0),
  (⟨.d1, .d1, .d2, .d1, .d4⟩, .cells 51 [.int .i64 14, .str 1 105, .float .f64 0, .nilSlice, .int .i64 32, .int .i64 15, .str 0 0, .float .f64 4632233691727265792, .nilSlice, .int .i64 36] false 0),
  (⟨.d3, .d2, .d3, .d1, .d4⟩, .cells 51 [.int .i64 9, .str 1 105, .float .f64 0, .slice ⟨.d7, .d1, .d3, .d1, .d4⟩ 0 1 (.is 1), .int .i64 41] true 0),
  (⟨.d7, .d1, .d3, .d1, .d4⟩, .cells 51 [.int .i64 18, .str 1 43, .float .f64 0, .slice ⟨.d6, .d0, .d3, .d1, .d4⟩ 0 2 (.is 2), .int .i64 51] false 0),
  (⟨.d6, .d0, .d3, .d1, .d4⟩, .cells 51 [.int .i64 14, .str 1 105, .float .f64 0, .nilSlice, .int .i64 49, .int .i64 15, .str 0 0, .float .f64 4607182418800017408, .nilSlice, .int .i64 53] false 0)]⟩
def faceRow51 : Row := ⟨[.str 59 5960308038610897063766289614726580392604317199350809607721575857945334436061045735135410549759576183920305846997297173072357240784573267145318], .tup [.agg [.int .i64 1, .str 0 0, .float .f64 0, .slice ⟨.d3, .d4, .d3, .d1, .d4⟩ 0 1 (.more 5), .int .i64 0], .int .i64 0, .int .i64 0], [
  (⟨.d3, .d4, .d3, .d1, .d4⟩, .cells 51 [.int .i64 2, .str 0 0, .float .f64 0, .slice ⟨.d7, .d3, .d3, .d1, .d4⟩ 0 2 (.more 5), .int .i64 0] true 0),
  (⟨.d7, .d3, .d3, .d1, .d4⟩, .cells 51 [.int .i64 14, .str 0 0, .float .f64 0, .nilSlice, .int .i64 0, .int .i64 4, .str 0 0, .float .f64 0, .slice ⟨.d5, .d3, .d3, .d1, .d4⟩ 0 1 (.is 1), .int .i64 9] true 0),
  (⟨.d5, .d3, .d3, .d1, .d4⟩, .cells 51 [.int .i64 8, .str 0 0, .float .f64 0, .slice ⟨.d1, .d3, .d3, .d1, .d4⟩ 0 2 (.more 5), .int .i64 13] false 0),
  (⟨.d1, .d3, .d3, .d1, .d4⟩, .cells 51 [.int .i64 9, .str 1 105, .float .f64 0, .slice ⟨.d4, .d0, .d1, .d1, .d4⟩ 0 1 (.is 1), .int .i64 15, .int .i64 11, .str 0 0, .float .f64 0, .slice ⟨.d7, .d2, .d3, .d1, .d4⟩ 0 2 (.is 2), .int .i64 26] true 0),
  (⟨.d4, .d0, .d1, .d1, .d4⟩, .cells 51 [.int .i64 15, .str 0 0, .float .f64 0, .nilSlice, .int .i64 23] false 0),
  (⟨.d7, .d2, .d3, .d1, .d4⟩, .cells 51 [.int .i64 18, .str 1 60, .float .f64 0, .slice ⟨.d1, .d1, .d2, .d1, .d4⟩ 0 2 (.is 2), .int .i64 34, .int .i64 8, .str 0 0, .float .f64 0, .slice ⟨.d3, .d2, .d3, .d1, .d4⟩ 0 1 (.more 5), .int .i64 39] false 0),
  (⟨.d1, .d1, .d2, .d1, .d4⟩, .cells 51 [.int .i64 14, .str 1 105, .float .f64 0, .nilSlice, .int .i64 32, .int .i64 15, .str 0 0, .float .f64 4632374429215621120, .nilSlice, .int .i64 36] false 0),
  (⟨.d3, .d2, .d3, .d1, .d4⟩, .cells 51 [.int .i64 9, .str 1 105, .float .f64 0, .slice ⟨.d7, .d1, .d3, .d1, .d4⟩ 0 1 (.is 1), .int .i64 41] true 0),
  (⟨.d7, .d1, .d3, .d1, .d4⟩, .cells 51 [.int .i64 18, .str 1 43, .float .f64 0, .slice ⟨.d6, .d0, .d3, .d1, .d4⟩ 0 2 (.is 2), .int .i64 51] false 0),
  (⟨.d6, .d0, .d3, .d1, .d4⟩, .cells 51 [.int .i64 14, .str 1 105, .float .f64 0, .nilSlice, .int .i64 49, .int .i64 15, .str 0 0, .float .f64 4607182418800017408, .nilSlice, .int .i64 53] false 0)]⟩
def faceRow52 : Row := ⟨[.str 59 5960308038610897063766289614726580392604317199350809735036324378850714827838901260721545615476350788041321511756075257721188475993117403607654], .tup [.agg [.int .i64 1, .str 0 0, .float .f64 0, .slice ⟨.d3, .d4, .d3, .d1, .d4⟩ 0 1 (.more 5), .int .i64 0], .int .i64 0, .int .i64 0], [
  (⟨.d3, .d4, .d3, .d1, .d4⟩, .cells 51 [.int .i64 2, .str 0 0, .float .f64 0, .slice ⟨.d7, .d3, .d3, .d1, .d4⟩ 0 2 (.more 5), .int .i64 0] true 0),
  (⟨.d7, .d3, .d3, .d1, .d4⟩, .cells 51 [.int .i64 14, .str 0 0, .float .f64 0, .nilSlice, .int .i64 0, .int .i64 4, .str 0 0, .float .f64 0, .slice ⟨.d5, .d3, .d3, .d1, .d4⟩ 0 1 (.is 1), .int .i64 9] true 0),
  (⟨.d5, .d3, .d3, .d1, .d4⟩, .cells 51 [.int .i64 8, .str 0 0, .float .f64 0, .slice ⟨.d1, .d3, .d3, .d1, .d4⟩ 0 2 (.more 5), .int .i64 13] false 0),
  (⟨.d1, .d3, .d3, .d1, .d4⟩, .cells 51 [.int .i64 9, .str 1 105, .float .f64 0, .slice ⟨.d4, .d0, .d1, .d1, .d4⟩ 0 1 (.is 1), .int .i64 15, .int .i64 11, .str 0 0, .float .f64 0, .slice ⟨.d7, .d2, .d3, .d1, .d4⟩ 0 2 (.is 2), .int .i64 26] true 0),
  (⟨.d4, .d0, .d1, .d1, .d4⟩, .cells 51 [.int .i64 15, .str 0 0, .float .f64 0, .nilSlice, .int .i64 23] false 0),
  (⟨.d7, .d2, .d3, .d1, .d4⟩, .cells 51 [.int .i64 18, .str 1 60, .float .f64 0, .slice ⟨.d1, .d1, .d2, .d1, .d4⟩ 0 2 (.is 2), .int .i64 34, .int .i64 8, .str 0 0, .float .f64 0, .slice ⟨.d3, .d2, .d3, .d1, .d4⟩ 0 1 (.more 5), .int .i64 39] false 0),
  (⟨.d1, .d1, .d2, .d1, .d4⟩, .cells 51 [.int .i64 14, .str 1 105, .float .f64 0, .nilSlice, .int .i64 32, .int .i64 15, .str 0 0, .float .f64 4632515166703976448, .nilSlice, .int .i64 36] false 0),
  (⟨.d3, .d2, .d3, .d1, .d4⟩, .cells 51 [.int .i64 9, .str 1 105, .float .f64 0, .slice ⟨.d7, .d1, .d3, .d1, .d4⟩ 0 1 (.is 1), .int .i64 41] true 0),
  (⟨.d7, .d1, .d3, .d1, .d4⟩, .cells 51 [.int .i64 18, .str 1 43, .float .f64 0, .slice ⟨.d6, .d0, .d3, .d1, .d4⟩ 0 2 (.is 2), .int .i64 51] false 0),
  (⟨.d6, .d0, .d3, .d1, .d4⟩, .cells 51 [.int .i64 14, .str 1 105, .float .f64 0, .nilSlice, .int .i64 49, .int .i64 15, .str 0 0, .float .f64 4607182418800017408, .nilSlice, .int .i64 53] false 0)]⟩
def faceRow53 : Row := ⟨[.str 59 5960308038610897063766289614726580392604317199350809862351072899756095219616756786307680681193125392162337176514853342370019711201661540069990], .tup [.agg [.int .i64 1, .str 0 0, .float .f64 0, .slice ⟨.d3, .d4, .d3, .d1, .d4⟩ 0 1 (.more 5), .int .i64 0], .int .i64 0, .int .i64 0], [
  (⟨.d3, .d4, .d3, .d1, .d4⟩, .cells 51 [.int .i64 2, .str 0 0, .float .f64 0, .slice ⟨.d7, .d3, .d3, .d1, .d4⟩ 0 2 (.more 5), .int .i64 0] true 0),
  (⟨.d7, .d3, .d3, .d1, .d4⟩, .cells 51 [.int .i64 14, .str 0 0, .float .f64 0, .nilSlice, .int .i64 0, .int .i64 4, .str 0 0, .float .f64 0, .slice ⟨.d5, .d3, .d3, .d1, .d4⟩ 0 1 (.is 1), .int .i64 9] true 0),
  (⟨.d5, .d3, .d3, .d1, .d4⟩, .cells 51 [.int .i64 8, .str 0 0, .float .f64 0, .slice ⟨.d1, .d3, .d3, .d1, .d4⟩ 0 2 (.more 5), .int .i64 13] false 0),
  (⟨.d1, .d3, .d3, .d1, .d4⟩, .cells 51 [.int .i64 9, .str 1 105, .float .f64 0, .slice ⟨.d4, .d0, .d1, .d1, .d4⟩ 0 1 (.is 1), .int .i64 15, .int .i64 11, .str 0 0, .float .f64 0, .slice ⟨.d7, .d2, .d3, .d1, .d4⟩ 0 2 (.is 2), .int .i64 26] true 0),
  (⟨.d4, .d0, .d1, .d1, .d4⟩, .cells 51 [.int .i64 15, .str 0 0, .float .f64 0, .nilSlice, .int .i64 23] false 0),
  (⟨.d7, .d2, .d3, .d1, .d4⟩, .cells 51 [.int .i64 18, .str 1 60, .float .f64 0, .slice ⟨.d1, .d1, .d2, .d1, .d4⟩ 0 2 (.is 2), .int .i64 34, .int .i64 8, .str 0 0, .float .f64 0, .slice ⟨.d3, .d2, .d3, .d1, .d4⟩ 0 1 (.more 5), .int .i64 39] false 0),
  (⟨.d1, .d1, .d2, .d1, .d4⟩, .cells 51 [.int .i64 14, .str 1 105, .float .f64 0, .nilSlice, .int .i64 32, .int .i64 15, .str 0 0, .float .f64 4632655904192331776, .nilSlice, .int .i64 36] false 0),
  (⟨.d3, .d2, .d3, .d1, .d4⟩, .cells 51 [.int .i64 9, .str 1 105, .float .f64 0, .slice ⟨.d7, .d1, .d3, .d1, .d4⟩ 0 1 (.is 1), .int .i64 41] true 0),
  (⟨.d7, .d1, .d3, .d1, .d4⟩, .cells 51 [.int .i64 18, .str 1 43, .float .f64 0, .slice ⟨.d6, .d0, .d3, .d1, .d4⟩ 0 2 (.is 2), .int .i64 51] false 0),
  (⟨.d6, .d0, .d3, .d1, .d4⟩, .cells 51 [.int .i64 14, .str 1 105, .float .f64 0, .nilSlice, .int .i64 49, .int .i64 15, .str 0 0, .float .f64 4607182418800017408, .nilSlice, .int .i64 53] false 0)]⟩
def faceRow54 : Row := ⟨[.str 59 5960308038610897063766289614726580392604317199350809989665821420661475611394612311893815746909899996283352841273631427018850946410205676532326], .tup [.agg [.int .i64 1, .str 0 0, .float .f64 0, .slice ⟨.d3, .d4, .d3, .d1, .d4⟩ 0 1 (.more 5), .int .i64 0], .int .i64 0, .int .i64 0], [
  (⟨.d3, .d4, .d3, .d1, .d4⟩, .cells 51 [.int .i64 2, .str 0 0, .float .f64 0, .slice ⟨.d7, .d3, .d3, .d1, .d4⟩ 0 2 (.more 5), .int .i64 0] true 0),
  (⟨.d7, .d3, .d3, .d1, .d4⟩, .cells 51 [.int .i64 14, .str 0 0, .float .f64 0, .nilSlice, .int .i64 0, .int .i64 4, .str 0 0, .float .f64 0, .slice ⟨.d5, .d3, .d3, .d1, .d4⟩ 0 1 (.is 1), .int .i64 9] true 0),
  (⟨.d5, .d3, .d3, .d1, .d4⟩, .cells 51 [.int .i64 8, .str 0 0, .float .f64 0, .slice ⟨.d1, .d3, .d3, .d1, .d4⟩ 0 2 (.more 5), .int .i64 13] false 0),
  (⟨.d1, .d3, .d3, .d1, .d4⟩, .cells 51 [.int .i64 9, .str 1 105, .float .f64 0, .slice ⟨.d4, .d0, .d1, .d1, .d4⟩ 0 1 (.is 1), .int .i64 15, .int .i64 11, .str 0 0, .float .f64 0, .slice ⟨.d7, .d2, .d3, .d1, .d4⟩ 0 2 (.is 2), .int .i64 26] true 0),
  (⟨.d4, .d0, .d1, .d1, .d4⟩, .cells 51 [.int .i64 15, .str 0 0, .float .f64 0, .nilSlice, .int .i64 23] false 0),
  (⟨.d7, .d2, .d3, .d1, .d4⟩, .cells 51 [.int .i64 18, .str 1 60, .float .f64 0, .slice ⟨.d1, .d1, .d2, .d1, .d4⟩ 0 2 (.is 2), .int .i64 34, .int .i64 8, .str 0 0, .float .f64 0, .slice ⟨.d3, .d2, .d3, .d1, .d4⟩ 0 1 (.more 5), .int .i64 39] false 0),
  (⟨.d1, .d1, .d2, .d1, .d4⟩, .cells 51 [.int .i64 14, .str 1 105, .float .f64 0, .nilSlice, .int .i64 32, .int .i64 15, .str 0 0, .float .f64 4632796641680687104, .nilSlice, .int .i64 36] false 0),
  (⟨.d3, .d2, .d3, .d1, .d4⟩, .cells 51 [.int .i64 9, .str 1 105, .float .f64 0, .slice ⟨.d7, .d1, .d3, .d1, .d4⟩ 0 1 (.is 1), .int .i64 41] true 0),
  (⟨.d7, .d1, .d3, .d1, .d4⟩, .cells 51 [.int .i64 18, .str 1 43, .float .f64 0, .slice ⟨.d6, .d0, .d3, .d1, .d4⟩ 0 2 (.is 2), .int .i64 51] false 0),
  (⟨.d6, .d0, .d3, .d1, .d4⟩, .cells 51 [.int .i64 14, .str 1 105, .float .f64 0, .nilSlice, .int .i64 49, .int .i64 15, .str 0 0, .float .f64 4607182418800017408, .nilSlice, .int .i64 53] false 0)]⟩
def faceRow55 : Row := ⟨[.str 59 5960308038610897063766289614726580392604317199350810116980569941566856003172467837479950812626674600404368506032409511667682181618749812994662], .tup [.agg [.int .i64 1, .str 0 0, .float .f64 0, .slice ⟨.d3, .d4, .d3, .d1, .d4⟩ 0 1 (.more 5), .int .i64 0], .int .i64 0, .int .i64 0], [
  (⟨.d3, .d4, .d3, .d1, .d4⟩, .cells 51 [.int .i64 2, .str 0 0, .float .f64 0, .slice ⟨.d7, .d3, .d3, .d1, .d4⟩ 0 2 (.more 5), .int .i64 0] true 0),
  (⟨.d7, .d3, .d3, .d1, .d4⟩, .cells 51 [.int .i64 14, .str 0 0, .float .f64 0, .nilSlice, .int .i64 0, .int .i64 4, .str 0 0, .float .f64 0, .slice ⟨.d5, .d3, .d3, .d1, .d4⟩ 0 1 (.is 1), .int .i64 9] true 0),
  (⟨.d5, .d3, .d3, .d1, .d4⟩, .cells 51 [.int .i64 8, .str 0 0, .float .f64 0, .slice ⟨.d1, .d3, .d3, .d1, .d4⟩ 0 2 (.more 5), .int .i64 13] false 0),
  (⟨.d1, .d3, .d3, .d1, .d4⟩, .cells 51 [.int .i64 9, .str 1 105, .float .f64 0, .slice ⟨.d4, .d0, .d1, .d1, .d4⟩ 0 1 (.is 1), .int .i64 15, .int .i64 11, .str 0 0, .float .f64 0, .slice ⟨.d7, .d2, .d3, .d1, .d4⟩ 0 2 (.is 2), .int .i64 26] true 0),
  (⟨.d4, .d0, .d1, .d1, .d4⟩, .cells 51 [.int .i64 15, .str 0 0, .float .f64 0, .nilSlice, .int .i64 23] false 0),
  (⟨.d7, .d2, .d3, .d1, .d4⟩, .cells 51 [.int .i64 18, .str 1 60, .float .f64 0, .slice ⟨.d1, .d1, .d2, .d1, .d4⟩ 0 2 (.is 2), .int .i64 34, .int .i64 8, .str 0 0, .float .f64 0, .slice ⟨.d3, .d2, .d3, .d1, .d4⟩ 0 1 (.more 5), .int .i64 39] false 0),
  (⟨.d1, .d1, .d2, .d1, .d4⟩, .cells 51 [.int .i64 14, .str 1 105, .float .f64 0, .nilSlice, .int .i64 32, .int .i64 15, .str 0 0, .float .f64 4632937379169042432, .nilSlice, .int .i64 36] false 0),
  (⟨.d3, .d2, .d3, .d1, .d4⟩, .cells 51 [.int .i64 9, .str 1 105, .float .f64 0, .slice ⟨.d7, .d1, .d3, .d1, .d4⟩ 0 1 (.is 1), .int .i64 41] true 0),
  (⟨.d7, .d1, .d3, .d1, .d4⟩, .cells 51 [.int .i64 18, .str 1 43, .float .f64 0, .slice ⟨.d6, .d0, .d3, .d1, .d4⟩ 0 2 (.is 2), .int .i64 51] false 0),
  (⟨.d6, .d0, .d3, .d1, .d4⟩, .cells 51 [.int .i64 14, .str 1 105, .float .f64 0, .nilSlice, .int .i64 49, .int .i64 15, .str 0 0, .float .f64 4607182418800017408, .nilSlice, .int .i64 53] false 0)]⟩
def faceRow56 : Row := ⟨[.str 59 5960308038610897063766289614726580392604317199350810244295318462472236394950323363066085878343449204525384170791187596316513416827293949456998], .tup [.agg [.int .i64 1, .str 0 0, .float .f64 0, .slice ⟨.d3, .d4, .d3, .d1, .d4⟩ 0 1 (.more 5), .int .i64 0], .int .i64 0, .int .i64 0], [
  (⟨.d3, .d4, .d3, .d1, .d4⟩, .cells 51 [.int .i64 2, .str 0 0, .float .f64 0, .slice ⟨.d7, .d3, .d3, .d1, .d4⟩ 0 2 (.more 5), .int .i64 0] true 0),
  (⟨.d7, .d3, .d3, .d1, .d4⟩, .cells 51 [.int .i64 14, .str 0 0, .float .f64 0, .nilSlice, .int .i64 0, .int .i64 4, .str 0 0, .float .f64 0, .slice ⟨.d5, .d3, .d3, .d1, .d4⟩ 0 1 (.is 1), .int .i64 9] true 0),
  (⟨.d5, .d3, .d3, .d1, .d4⟩, .cells 51 [.int .i64 8, .str 0 0, .float .f64 0, .slice ⟨.d1, .d3, .d3, .d1, .d4⟩ 0 2 (.more 5), .int .i64 13] false 0),
  (⟨.d1, .d3, .d3, .d1, .d4⟩, .cells 51 [.int .i64 9, .str 1 105, .float .f64 0, .slice ⟨.d4, .d0, .d1, .d1, .d4⟩ 0 1 (.is 1), .int .i64 15, .int .i64 11, .str 0 0, .float .f64 0, .slice ⟨.d7, .d2, .d3, .d1, .d4⟩ 0 2 (.is 2), .int .i64 26] true 0),
  (⟨.d4, .d0, .d1, .d1, .d4⟩, .cells 51 [.int .i64 15, .str 0 0, .float .f64 0, .nilSlice, .int .i64 23] false 0),
  (⟨.d7, .d2, .d3, .d1, .d4⟩, .cells 51 [.int .i64 18, .str 1 60, .float .f64 0, .slice ⟨.d1, .d1, .d2, .d1, .d4⟩ 0 2 (.is 2), .int .i64 34, .int .i64 8, .str 0 0, .float .f64 0, .slice ⟨.d3, .d2, .d3, .d1, .d4⟩ 0 1 (.more 5), .int .i64 39] false 0),
  (⟨.d1, .d1, .d2, .d1, .d4⟩, .cells 51 [.int .i64 14, .str 1 105, .float .f64 0, .nilSlice, .int .i64 32, .int .i64 15, .str 0 0, .float .f64 4633078116657397760, .nilSlice, .int .i64 36] false 0),
  (⟨.d3, .d2, .d3, .d1, .d4⟩, .cells 51 [.int .i64 9, .str 1 105, .float .f64 0, .slice ⟨.d7, .d1, .d3, .d1, .d4⟩ 0 1 (.is 1), .int .i64 41] true 0),
  (⟨.d7, .d1, .d3, .d1, .d4⟩, .cells 51 [.int .i64 18, .str 1 43, .float .f64 0, .slice ⟨.d6, .d0, .d3, .d1, .d4⟩ 0 2 (.is 2), .int .i64 51] false 0),
  (⟨.d6, .d0, .d3, .d1, .d4⟩, .cells 51 [.int .i64 14, .str 1 105, .float .f64 0, .nilSlice, .int .i64 49, .int .i64 15, .str 0 0, .float .f64 4607182418800017408, .nilSlice, .int .i64 53] false 0)]⟩
def faceRow57 : Row := ⟨[.str 59 5960308038610897063766289614726580392604317199350810371610066983377616786728178888652220944060223808646399835549965680965344652035838085919334], .tup [.agg [.int .i64 1, .str 0 0, .float .f64 0, .slice ⟨.d3, .d4, .d3, .d1, .d4⟩ 0 1 (.more 5), .int .i64 0], .int .i64 0, .int .i64 0], [
  (⟨.d3, .d4, .d3, .d1, .d4⟩, .cells 51 [.int .i64 2, .str 0 0, .float .f64 0, .slice ⟨.d7, .d3, .d3, .d1, .d4⟩ 0 2 (.more 5), .int .i64 0] true 0),
  (⟨.d7, .d3, .d3, .d1, .d4⟩, .cells 51 [.int .i64 14, .str 0 0, .float .f64 0, .nilSlice, .int .i64 0, .int .i64 4, .str 0 0, .float .f64 0, .slice ⟨.d5, .d3, .d3, .d1, .d4⟩ 0 1 (.is 1), .int .i64 9] true 0),
  (⟨.d5, .d3, .d3, .d1, .d4⟩, .cells 51 [.int .i64 8, .str 0 0, .float .f64 0, .slice ⟨.d1, .d3, .d3, .d1, .d4⟩ 0 2 (.more 5), .int .i64 13] false 0),
  (⟨.d1, .d3, .d3, .d1, .d4⟩, .cells 51 [.int .i64 9, .str 1 105, .float .f64 0, .slice ⟨.d4, .d0, .d1, .d1, .d4⟩ 0 1 (.is 1), .int .i64 15, .int .i64 11, .str 0 0, .float .f64 0, .slice ⟨.d7, .d2, .d3, .d1, .d4⟩ 0 2 (.is 2), .int .i64 26] true 0),
  (⟨.d4, .d0, .d1, .d1, .d4⟩, .cells 51 [.int .i64 15, .str 0 0, .float .f64 0, .nilSlice, .int .i64 23] false 0),
  (⟨.d7, .d2, .d3, .d1, .d4⟩, .cells 51 [.int .i64 18, .str 1 60, .float .f64 0, .slice ⟨.d1, .d1, .d2, .d1, .d4⟩ 0 2 (.is 2), .int .i64 34, .int .i64 8, .str 0 0, .float .f64 0, .slice ⟨.d3, .d2, .d3, .d1, .d4⟩ 0 1 (.more 5), .int .i64 39] false 0),
  (⟨.d1, .d1, .d2, .d1, .d4⟩, .cells 51 [.int .i64 14, .str 1 105, .float .f64 0, .nilSlice, .int .i64 32, .int .i64 15, .str 0 0, .float .f64 4633218854145753088, .nilSlice, .int .i64 36] false 0),
  (⟨.d3, .d2, .d3, .d1, .d4⟩, .cells 51 [.int .i64 9, .str 1 105, .float .f64 0, .slice ⟨.d7, .d1, .d3, .d1, .d4⟩ 0 1 (.is 1), .int .i64 41] true 0),
  (⟨.d7, .d1, .d3, .d1, .d4⟩, .cells 51 [.int .i64 18, .str 1 43, .float .f64 0, .slice ⟨.d6, .d0, .d3, .d1, .d4⟩ 0 2 (.is 2), .int .i64 51] false 0),
  (⟨.d6, .d0, .d3, .d1, .d4⟩, .cells 51 [.int .i64 14, .str 1 105, .float .f64 0, .nilSlice, .int .i64 49, .int .i64 15, .str 0 0, .float .f64 4607182418800017408, .nilSlice, .int .i64 53] false 0)]⟩
def faceRow58 : Row := ⟨[.str 59 5960308038610897063766289614726580392604317199350810498924815504282997178506034414238356009776998412767415500308743765614175887244382222381670], .tup [.agg [.int .i64 1, .str 0 0, .float .f64 0, .slice ⟨.d3, .d4, .d3, .d1, .d4⟩ 0 1 (.more 5), .int .i64 0], .int .i64 0, .int .i64 0], [
  (⟨.d3, .d4, .d3, .d1, .d4⟩, .cells 51 [.int .i64 2, .str 0 0, .float .f64 0, .slice ⟨.d7, .d3, .d3, .d1, .d4⟩ 0 2 (.more 5), .int .i64 0] true 0),
  (⟨.d7, .d3, .d3, .d1, .d4⟩, .cells 51 [.int .i64 14, .str 0 0, .float .f64 0, .nilSlice, .int .i64 0, .int .i64 4, .str 0 0, .float .f64 0, .slice ⟨.d5, .d3, .d3, .d1, .d4⟩ 0 1 (.is 1), .int .i64 9] true 0),
  (⟨.d5, .d3, .d3, .d1, .d4⟩, .cells 51 [.int .i64 8, .str 0 0, .float .f64 0, .slice ⟨.d1, .d3, .d3, .d1, .d4⟩ 0 2 (.more 5), .int .i64 13] false 0),
  (⟨.d1, .d3, .d3, .d1, .d4⟩, .cells 51 [.int .i64 9, .str 1 105, .float .f64 0, .slice ⟨.d4, .d0, .d1, .d1, .d4⟩ 0 1 (.is 1), .int .i64 15, .int .i64 11, .str 0 0, .float .f64 0, .slice ⟨.d7, .d2, .d3, .d1, .d4⟩ 0 2 (.is 2), .int .i64 26] true 0),
  (⟨.d4, .d0, .d1, .d1, .d4⟩, .cells 51 [.int .i64 15, .str 0 0, .float .f64 0, .nilSlice, .int .i64 23] false 0),
  (⟨.d7, .d2, .d3, .d1, .d4⟩, .cells 51 [.int .i64 18, .str 1 60, .float .f64 0, .slice ⟨.d1, .d1, .d2, .d1, .d4⟩ 0 2 (.is 2), .int .i64 34, .int .i64 8, .str 0 0, .float .f64 0, .slice ⟨.d3, .d2, .d3, .d1, .d4⟩ 0 1 (.more 5), .int .i64 39] false 0),
  (⟨.d1, .d1, .d2, .d1, .d4⟩, .cells 51 [.int .i64 14, .str 1 105, .float .f64 0, .nilSlice, .int .i64 32, .int .i64 15, .str 0 0, .float .f64 4633359591634108416, .nilSlice, .int .i64 36] false 0),
  (⟨.d3, .d2, .d3, .d1, .d4⟩, .cells 51 [.int .i64 9, .str 1 105, .float .f64 0, .slice ⟨.d7, .d1, .d3, .d1, .d4⟩ 0 1 (.is 1), .int .i64 41] true 0),
  (⟨.d7, .d1, .d3, .d1, .d4⟩, .cells 51 [.int .i64 18, .str 1 43, .float .f64 0, .slice ⟨.d6, .d0, .d3, .d1, .d4⟩ 0 2 (.is 2), .int .i64 51] false 0),
  (⟨.d6, .d0, .d3, .d1, .d4⟩, .cells 51 [.int .i64 14, .str 1 105, .float .f64 0, .nilSlice, .int .i64 49, .int .i64 15, .str 0 0, .float .f64 4607182418800017408, .nilSlice, .int .i64 53] false 0)]⟩
def faceRow59 : Row := ⟨[.str 59 5960308038610897063766289614726580392604317199350810626239564025188377570283889939824491075493773016888431165067521850263007122452926358844006], .tup [.agg [.int .i64 1, .str 0 0, .float .f64 0, .slice ⟨.d3, .d4, .d3, .d1, .d4⟩ 0 1 (.more 5), .int .i64 0], .int .i64 0, .int .i64 0], [
  (⟨.d3, .d4, .d3, .d1, .d4⟩, .cells 51 [.int .i64 2, .str 0 0, .float .f64 0, .slice ⟨.d7, .d3, .d3, .d1, .d4⟩ 0 2 (.more 5), .int .i64 0] true 0),
  (⟨.d7, .d3, .d3, .d1, .d4⟩, .cells 51 [.int .i64 14, .str 0 0, .float .f64 0, .nilSlice, .int .i64 0, .int .i64 4, .str 0 0, .float .f64 0, .slice ⟨.d5, .d3, .d3, .d1, .d4⟩ 0 1 (.is 1), .int .i64 9] true 0),
  (⟨.d5, .d3, .d3, .d1, .d4⟩, .cells 51 [.int .i64 8, .str 0 0, .float .f64 0, .slice ⟨.d1, .d3, .d3, .d1, .d4⟩ 0 2 (.more 5), .int .i64 13] false 0),
  (⟨.d1, .d3, .d3, .d1, .d4⟩, .cells 51 [.int .i64 9, .str 1 105, .float .f64 0, .slice ⟨.d4, .d0, .d1, .d1, .d4⟩ 0 1 (.is 1), .int .i64 15, .int .i64 11, .str 0 0, .float .f64 0, .slice ⟨.d7, .d2, .d3, .d1, .d4⟩ 0 2 (.is 2), .int .i64 26] true 0),
  (⟨.d4, .d0, .d1, .d1, .d4⟩, .cells 51 [.int .i64 15, .str 0 0, .float .f64 0, .nilSlice, .int .i64 23] false 0),
  (⟨.d7, .d2, .d3, .d1, .d4⟩, .cells 51 [.int .i64 18, .str 1 60, .float .f64 0, .slice ⟨.d1, .d1, .d2, .d1, .d4⟩ 0 2 (.is 2), .int .i64 34, .int .i64 8, .str 0 0, .float .f64 0, .slice ⟨.d3, .d2, .d3, .d1, .d4⟩ 0 1 (.more 5), .int .i64 39] false 0),
  (⟨.d1, .d1, .d2, .d1, .d4⟩, .cells 51 [.int .i64 14, .str 1 105, .float .f64 0, .nilSlice, .int .i64 32, .int .i64 15, .str 0 0, .float .f64 4633500329122463744, .nilSlice, .int .i64 36] false 0),
  (⟨.d3, .d2, .d3, .d1, .d4⟩, .cells 51 [.int .i64 9, .str 1 105, .float .f64 0, .slice ⟨.d7, .d1, .d3, .d1, .d4⟩ 0 1 (.is 1), .int .i64 41] true 0),
  (⟨.d7, .d1, .d3, .d1, .d4⟩, .cells 51 [.int .i64 18, .str 1 43, .float .f64 0, .slice ⟨.d6, .d0, .d3, .d1, .d4⟩ 0 2 (.is 2), .int .i64 51] false 0),
  (⟨.d6, .d0, .d3, .d1, .d4⟩, .cells 51 [.int .i64 14, .str 1 105, .float .f64 0, .nilSlice, .int .i64 49, .int .i64 15, .str 0 0, .float .f64 4607182418800017408, .nilSlice, .int .i64 53] false 0)]⟩
def faceRow60 : Row := ⟨[.str 59 5960308038610897063766289614726580392604317199350809480904150573449740686438572457696096324143257730596637899678983065316685502588562506216038], .tup [.agg [.int .i64 1, .str 0 0, .float .f64 0, .slice ⟨.d3, .d4, .d3, .d1, .d4⟩ 0 1 (.more 5), .int .i64 0], .int .i64 0, .int .i64 0], [
  (⟨.d3, .d4, .d3, .d1, .d4⟩, .cells 51 [.int .i64 2, .str 0 0, .float .f64 0, .slice ⟨.d7, .d3, .d3, .d1, .d4⟩ 0 2 (.more 5), .int .i64 0] true 0),
  (⟨.d7, .d3, .d3, .d1, .d4⟩, .cells 51 [.int .i64 14, .str 0 0, .float .f64 0, .nilSlice, .int .i64 0, .int .i64 4, .str 0 0, .float .f64 0, .slice ⟨.d5, .d3, .d3, .d1, .d4⟩ 0 1 (.is 1), .int .i64 9] true 0),
  (⟨.d5, .d3, .d3, .d1, .d4⟩, .cells 51 [.int .i64 8, .str 0 0, .float .f64 0, .slice ⟨.d1, .d3, .d3, .d1, .d4⟩ 0 2 (.more 5), .int .i64 13] false 0),
  (⟨.d1, .d3, .d3, .d1, .d4⟩, .cells 51 [.int .i64 9, .str 1 105, .float .f64 0, .slice ⟨.d4, .d0, .d1, .d1, .d4⟩ 0 1 (.is 1), .int .i64 15, .int .i64 11, .str 0 0, .float .f64 0, .slice ⟨.d7, .d2, .d3, .d1, .d4⟩ 0 2 (.is 2), .int .i64 26] true 0),
  (⟨.d4, .d0, .d1, .d1, .d4⟩, .cells 51 [.int .i64 15, .str 0 0, .float .f64 0, .nilSlice, .int .i64 23] false 0),
  (⟨.d7, .d2, .d3, .d1, .d4⟩, .cells 51 [.int .i64 18, .str 1 60, .float .f64 0, .slice ⟨.d1, .d1, .d2, .d1, .d4⟩ 0 2 (.is 2), .int .i64 34, .int .i64 8, .str 0 0, .float .f64 0, .slice ⟨.d3, .d2, .d3, .d1, .d4⟩ 0 1 (.more 5), .int .i64 39] false 0),
  (⟨.d1, .d1, .d2, .d1, .d4⟩, .cells 51 [.int .i64 14, .str 1 105, .float .f64 0, .nilSlice, .int .i64 32, .int .i64 15, .str 0 0, .float .f64 4633641066610819072, .nilSlice, .int .i64 36] false 0),
  (⟨.d3, .d2, .d3, .d1, .d4⟩, .cells 51 [.int .i64 9, .str 1 105, .float .f64 0, .slice ⟨.d7, .d1, .d3, .d1, .d4⟩ 0 1 (.is 1), .int .i64 41] true 0),
  (⟨.d7, .d1, .d3, .d1, .d4⟩, .cells 51 [.int .i64 18, .str 1 43, .float .f64 0, .slice ⟨.d6, .d0, .d3, .d1, .d4⟩ 0 2 (.is 2), .int .i64 51] false 0),
  (⟨.d6, .d0, .d3, .d1, .d4⟩, .cells 51 [.int .i64 14, .str 1 105, .float .f64 0, .nilSlice, .int .i64 49, .int .i64 15, .str 0 0, .float .f64 4607182418800017408, .nilSlice, .int .i64 53] false 0)]⟩
def faceRow61 : Row := ⟨[.str 59 5960308038610897063766289614726580392604317199350809608218899094355121078216427983282231389860032334717653564437761149965516737797106642678374], .tup [.agg [.int .i64 1, .str 0 0, .float .f64 0, .slice ⟨.d3, .d4, .d3, .d1, .d4⟩ 0 1 (.more 5), .int .i64 0], .int .i64 0, .int .i64 0], [
  (⟨.d3, .d4, .d3, .d1, .d4⟩, .cells 51 [.int .i64 2, .str 0 0, .float .f64 0, .slice ⟨.d7, .d3, .d3, .d1, .d4⟩ 0 2 (.more 5), .int .i64 0] true 0),
  (⟨.d7, .d3, .d3, .d1, .d4⟩, .cells 51 [.int .i64 14, .str 0 0, .float .f64 0, .nilSlice, .int .i64 0, .int .i64 4, .str 0 0, .float .f64 0, .slice ⟨.d5, .d3, .d3, .d1, .d4⟩ 0 1 (.is 1), .int .i64 9] true 0),
  (⟨.d5, .d3, .d3, .d1, .d4⟩, .cells 51 [.int .i64 8, .str 0 0, .float .f64 0, .slice ⟨.d1, .d3, .d3, .d1, .d4⟩ 0 2 (.more 5), .int .i64 13] false 0),
  (⟨.d1, .d3, .d3, .d1, .d4⟩, .cells 51 [.int .i64 9, .str 1 105, .float .f64 0, .slice ⟨.d4, .d0, .d1, .d1, .d4⟩ 0 1 (.is 1), .int .i64 15, .int .i64 11, .str 0 0, .float .f64 0, .slice ⟨.d7, .d2, .d3, .d1, .d4⟩ 0 2 (.is 2), .int .i64 26] true 0),
  (⟨.d4, .d0, .d1, .d1, .d4⟩, .cells 51 [.int .i64 15, .str 0 0, .float .f64 0, .nilSlice, .int .i64 23] false 0),
  (⟨.d7, .d2, .d3, .d1, .d4⟩, .cells 51 [.int .i64 18, .str 1 60, .float .f64 0, .slice ⟨.d1, .d1, .d2, .d1, .d4⟩ 0 2 (.is 2), .int .i64 34, .int .i64 8, .str 0 0, .float .f64 0, .slice ⟨.d3, .d2, .d3, .d1, .d4⟩ 0 1 (.more 5), .int .i64 39] false 0),
  (⟨.d1, .d1, .d2, .d1, .d4⟩, .cells 51 [.int .i64 14, .str 1 105, .float .f64 0, .nilSlice, .int .i64 32, .int .i64 15, .str 0 0, .float .f64 4633781804099174400, .nilSlice, .int .i64 36] false 0),
  (⟨.d3, .d2, .d3, .d1, .d4⟩, .cells 51 [.int .i64 9, .str 1 105, .float .f64 0, .slice ⟨.d7, .d1, .d3, .d1, .d4⟩ 0 1 (.is 1), .int .i64 41] true 0),
  (⟨.d7, .d1, .d3, .d1, .d4⟩, .cells 51 [.int .i64 18, .str 1 43, .float .f64 0, .slice ⟨.d6, .d0, .d3, .d1, .d4⟩ 0 2 (.is 2), .int .i64 51] false 0),
  (⟨.d6, .d0, .d3, .d1, .d4⟩, .cells 51 [.int .i64 14, .str 1 105, .float .f64 0, .nilSlice, .int .i64 49, .int .i64 15, .str 0 0, .float .f64 4607182418800017408, .nilSlice, .int .i64 53] false 0)]⟩
def faceRow62 : Row := ⟨[.str 59 5960308038610897063766289614726580392604317199350809735533647615260501469994283508868366455576806938838669229196539234614347973005650779140710], .tup [.agg [.int .i64 1, .str 0 0, .float .f64 0, .slice ⟨.d3, .d4, .d3, .d1, .d4⟩ 0 1 (.more 5), .int .i64 0], .int .i64 0, .int .i64 0], [
  (⟨.d3, .d4, .d3, .d1, .d4⟩, .cells 51 [.int .i64 2, .str 0 0, .float .f64 0, .slice ⟨.d7, .d3, .d3, .d1, .d4⟩ 0 2 (.more 5), .int .i64 0] true 0),
  (⟨.d7, .d3, .d3, .d1, .d4⟩, .cells 51 [.int .i64 14, .str 0 0, .float .f64 0, .nilSlice, .int .i64 0, .int .i64 4, .str 0 0, .float .f64 0, .slice ⟨.d5, .d3, .d3, .d1, .d4⟩ 0 1 (.is 1), .int .i64 9] true 0),
  (⟨.d5, .d3, .d3, .d1, .d4⟩, .cells 51 [.int .i64 8, .str 0 0, .float .f64 0, .slice ⟨.d1, .d3, .d3, .d1, .d4⟩ 0 2 (.more 5), .int .i64 13] false 0),
  (⟨.d1, .d3, .d3, .d1, .d4⟩, .cells 51 [.int .i64 9, .str 1 105, .float .f64 0, .slice ⟨.d4, .d0, .d1, .d1, .d4⟩ 0 1 (.is 1), .int .i64 15, .int .i64 11, .str 0 0, .float .f64 0, .slice ⟨.d7, .d2, .d3, .d1, .d4⟩ 0 2 (.is 2), .int .i64 26] true 0),
  (⟨.d4, .d0, .d1, .d1, .d4⟩, .cells 51 [.int .i64 15, .str 0 0, .float .f64 0, .nilSlice, .int .i64 23] false 0),
  (⟨.d7, .d2, .d3, .d1, .d4⟩, .cells 51 [.int .i64 18, .str 1 60, .float .f64 0, .slice ⟨.d1, .d1, .d2, .d1, .d4⟩ 0 2 (.is 2), .int .i64 34, .int .i64 8, .str 0 0, .float .f64 0, .slice ⟨.d3, .d2, .d3, .d1, .d4⟩ 0 1 (.more 5), .int .i64 39] false 0),
  (⟨.d1, .d1, .d2, .d1, .d4⟩, .cells 51 [.int .i64 14, .str 1 105, .float .f64 0, .nilSlice, .int .i64 32, .int .i64 15, .str 0 0, .float .f64 4633922541587529728, .nilSlice, .int .i64 36] false 0),
  (⟨.d3, .d2, .d3, .d1, .d4⟩, .cells 51 [.int .i64 9, .str 1 105, .float .f64 0, .slice ⟨.d7, .d1, .d3, .d1, .d4⟩ 0 1 (.is 1), .int .i64 41] true 0),
  (⟨.d7, .d1, .d3, .d1, .d4⟩, .cells 51 [.int .i64 18, .str 1 43, .float .f64 0, .slice ⟨.d6, .d0, .d3, .d1, .d4⟩ 0 2 (.is 2), .int .i64 51] false 0),
  (⟨.d6, .d0, .d3, .d1, .d4⟩, .cells 51 [.int .i64 14, .str 1 105, .float .f64 0, .nilSlice, .int .i64 49, .int .i64 15, .str 0 0, .float .f64 4607182418800017408, .nilSlice, .int .i64 53] false 0)]⟩
def faceRow63 : Row := ⟨[.str 59 5960308038610897063766289614726580392604317199350809862848396136165881861772139034454501521293581542959684893955317319263179208214194915603046], .tup [.agg [.int .i64 1, .str 0 0, .float .f64 0, .slice ⟨.d3, .d4, .d3, .d1, .d4⟩ 0 1 (.more 5), .int .i64 0], .int .i64 0, .int .i64 0], [
  (⟨.d3, .d4, .d3, .d1, .d4⟩, .cells 51 [.int .i64 2, .str 0 0, .float .f64 0, .slice ⟨.d7, .d3, .d3, .d1, .d4⟩ 0 2 (.more 5), .int .i64 0] true 0),
  (⟨.d7, .d3, .d3, .d1, .d4⟩, .cells 51 [.int .i64 14, .str 0 0, .float .f64 0, .nilSlice, .int .i64 0, .int .i64 4, .str 0 0, .float .f64 0, .slice ⟨.d5, .d3, .d3, .d1, .d4⟩ 0 1 (.is 1), .int .i64 9] true 0),
  (⟨.d5, .d3, .d3, .d1, .d4⟩, .cells 51 [.int .i64 8, .str 0 0, .float .f64 0, .slice ⟨.d1, .d3, .d3, .d1, .d4⟩ 0 2 (.more 5), .int .i64 13] false 0),
  (⟨.d1, .d3, .d3, .d1, .d4⟩, .cells 51 [.int .i64 9, .str 1 105, .float .f64 0, .slice ⟨.d4, .d0, .d1, .d1, .d4⟩ 0 1 (.is 1), .int .i64 15, .int .i64 11, .str 0 0, .float .f64 0, .slice ⟨.d7, .d2, .d3, .d1, .d4⟩ 0 2 (.is 2), .int .i64 26] true 0),
  (⟨.d4, .d0, .d1, .d1, .d4⟩, .cells 51 [.int .i64 15, .str 0 0, .float .f64 0, .nilSlice, .int .i64 23] false 0),
  (⟨.d7, .d2, .d3, .d1, .d4⟩, .cells 51 [.int .i64 18, .str 1 60, .float .f64 0, .slice ⟨.d1, .d1, .d2, .d1, .d4⟩ 0 2 (.is 2), .int .i64 34, .int .i64 8, .str 0 0, .float .f64 0, .slice ⟨.d3, .d2, .d3, .d1, .d4⟩ 0 1 (.more 5), .int .i64 39] false 0),
  (⟨.d1, .d1, .d2, .d1, .d4⟩, .cells 51 [.int .i64 14, .str 1 105, .float .f64 0, .nilSlice, .int .i64 32, .int .i64 15, .str 0 0, .float .f64 4634063279075885056, .nilSlice, .int .i64 36] false 0),
  (⟨.d3, .d2, .d3, .d1, .d4⟩, .cells 51 [.int .i64 9, .str 1 105, .float .f64 0, .slice ⟨.d7, .d1, .d3, .d1, .d4⟩ 0 1 (.is 1), .int .i64 41] true 0),
  (⟨.d7, .d1, .d3, .d1, .d4⟩, .cells 51 [.int .i64 18, .str 1 43, .float .f64 0, .slice ⟨.d6, .d0, .d3, .d1, .d4⟩ 0 2 (.is 2), .int .i64 51] false 0),
  (⟨.d6, .d0, .d3, .d1, .d4⟩, .cells 51 [.int .i64 14, .str 1 105, .float .f64 0, .nilSlice, .int .i64 49, .int .i64 15, .str 0 0, .float .f64 4607182418800017408, .nilSlice, .int .i64 53] false 0)]⟩
def faceRows : List Row := [faceRow0, faceRow1, faceRow2, faceRow3, faceRow4, faceRow5, faceRow6, faceRow7, faceRow8, faceRow9, faceRow10, faceRow11, faceRow12, faceRow13, faceRow14, faceRow15, faceRow16, faceRow17, faceRow18, faceRow19, faceRow20, faceRow21, faceRow22, faceRow23, faceRow24, faceRow25, faceRow26, faceRow27, faceRow28, faceRow29, faceRow30, faceRow31, faceRow32, faceRow33, faceRow34, faceRow35, faceRow36, faceRow37, faceRow38, faceRow39, faceRow40, faceRow41, faceRow42, faceRow43, faceRow44, faceRow45, faceRow46, faceRow47, faceRow48, faceRow49, faceRow50, faceRow51, faceRow52, faceRow53, faceRow54, faceRow55, faceRow56, faceRow57, faceRow58, faceRow59, faceRow60, faceRow61, faceRow62, faceRow63]
noncomputable def memoTM (k : Nat) (_ : List AV) : List Row := match k with
  | 0 => faceRows
  | _ => []
abbrev hook0 : Hook := ⟨lookN sumL, lookN extL, fun _ _ => [], noPrim⟩
noncomputable abbrev hookA : Hook := ⟨lookN sumLA, lookN extL, memoT, noPrim⟩
noncomputable abbrev hookM : Hook := ⟨lookN sumLM, lookN extL, memoTM, noPrim⟩
def key0 : Key := ⟨.d0, .d0, .d1, .d0, .d0⟩
def key4 : Key := ⟨.d0, .d0, .d0, .d0, .d4⟩
def keyI : Key := ⟨.d7, .d7, .d7, .d7, .d7⟩
def spaceZ : List Int := [0, 0, 0, 0, 0, 0, 0, 0, 0, 1, 1, 1, 1, 1, 0, 0, 0, 0, 0, 0, 0, 0, 0, 0, 0, 0, 0, 0, 0, 0, 0, 0, 1, 0, 0, 0, 0, 0, 0, 0, 0, 0, 0, 0, 0, 0, 0, 0, 0, 0, 0, 0, 0, 0, 0, 0, 0, 0, 0, 0, 0, 0, 0, 0, 0, 0, 0, 0, 0, 0, 0, 0, 0, 0, 0, 0, 0, 0, 0, 0, 0, 0, 0, 0, 0, 0, 0, 0, 0, 0, 0, 0, 0, 0, 0, 0, 0, 0, 0, 0, 0, 0, 0, 0, 0, 0, 0, 0, 0, 0, 0, 0, 0, 0, 0, 0, 0, 0, 0, 0, 0, 0, 0, 0, 0, 0, 0, 0, 0, 0, 0, 0, 0, 0, 0, 0, 0, 0, 0, 0, 0, 0, 0, 0, 0, 0, 0, 0, 0, 0, 0, 0, 0, 0, 0, 0, 0, 0, 0, 0, 0, 0, 0, 0, 0, 0, 0, 0, 0, 0, 0, 0, 0, 0, 0, 0, 0, 0, 0, 0, 0, 0, 0, 0, 0, 0, 0, 0, 0, 0, 0, 0, 0, 0, 0, 0, 0, 0, 0, 0, 0, 0, 0, 0, 0, 0, 0, 0, 0, 0, 0, 0, 0, 0, 0, 0, 0, 0, 0, 0, 0, 0, 0, 0, 0, 0, 0, 0, 0, 0, 0, 0, 0, 0, 0, 0, 0, 0, 0, 0, 0, 0, 0, 0, 0, 0, 0, 0, 0, 0, 0, 0, 0, 0, 0, 0]
def laidL : List (Nat × AObj) := [(1, .fixed 0 (spaceZ.map fun z => AV.int .u8 z))]
def tot (_ : Nat) : Nat := 256
end Go.Proofs.YtndjamcbdcjleaaGreatDoor
