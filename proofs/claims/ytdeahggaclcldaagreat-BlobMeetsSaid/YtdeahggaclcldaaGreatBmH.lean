/- The functions of this program that the evaluator takes by a contract, and what it knows at the start. No conditions. -/
import Derived.Test.YtdeahggaclcldaaGreatVH
import Derived.Test.YtdeahggaclcldaaGreatSh
import Derived.Test.YtdeahggaclcldaaGreatSt
import Derived.KernelRfl
namespace Go.Proofs.YtdeahggaclcldaaGreat
open Go.VM
def extL : List (Nat × Nat) := [(182, 4), (107, 5), (106, 3)]
def sumL : List (Nat × Nat) := [(166, 1)]
def sumLA : List (Nat × Nat) := [(87, 4), (125, 5), (53, 7), (102, 8), (26, 9), (166, 1)]
def sumLM : List (Nat × Nat) := [(4, 3), (87, 4), (125, 5), (53, 7), (102, 8), (26, 9), (166, 1)]
def tab0 : List Row := [
  ⟨[.str 0 0, .str 10 563832672304467135980079], .tup [.str 9 2202471376189324749922, .int .i64 0], []⟩,
  ⟨[.str 0 0, .str 19 1074373933388454429472214485819975120485900847], .tup [.str 18 4196773177298650115125837835234277814398050, .int .i64 0], []⟩,
  ⟨[.str 0 0, .str 6 126866613363247], .tup [.str 5 495572708450, .int .i64 0], []⟩,
  ⟨[.str 0 0, .str 19 1096675006937433272852141592026009708402598447], .tup [.str 18 4283886745849348722078678093851600423447650, .int .i64 0], []⟩,
  ⟨[.str 0 0, .str 17 16733943026214261178263719572760966226479], .tup [.str 16 65366964946149457727592654581097524322, .int .i64 0], []⟩,
  ⟨[.str 0 0, .str 19 1096672971863430523029789057884384843373765167], .tup [.str 18 4283878796341525480585113507360878294428770, .int .i64 0], []⟩,
  ⟨[.str 0 0, .str 19 1096673988748890072726279032115815294438236719], .tup [.str 18 4283882768550351846587027469202403493899362, .int .i64 0], []⟩,
  ⟨[.str 0 0, .str 19 1096675353855698030307064549037193046872842799], .tup [.str 18 4283888100998820430886970894676535339347042, .int .i64 0], []⟩,
  ⟨[.str 0 0, .str 19 1074374261738902649710605873753361346896618031], .tup [.str 18 4196774459917588475432054194349067761314914, .int .i64 0], []⟩,
  ⟨[.str 0 0, .str 17 16393660659293322714800344965329198015023], .tup [.str 16 64037736950364541854688847520817179746, .int .i64 0], []⟩,
  ⟨[.str 0 0, .str 19 1074372226664899899888253339611736481867784751], .tup [.str 18 4196766510409765233938489607858345632296034, .int .i64 0], []⟩,
  ⟨[.str 0 0, .str 19 1074373243550359449584743313843166932932256303], .tup [.str 18 4196770482618591599940403569699870831766626, .int .i64 0], []⟩,
  ⟨[.str 0 0, .str 19 1074374608657167407165528830764544685366862383], .tup [.str 18 4196775815067060184240346995174002677214306, .int .i64 0], []⟩]
def tab1 : List Row := [
  ⟨[.int .i64 0, .int .i64 2], .str 2 0, []⟩,
  ⟨[.int .i64 2, .int .i64 1], .str 1 2, []⟩,
  ⟨[.int .i64 11, .int .i64 3], .str 3 11, []⟩,
  ⟨[.int .i64 12, .int .i64 1], .str 1 12, []⟩,
  ⟨[.int .i64 47, .int .i64 2], .str 2 47, []⟩,
  ⟨[.int .i64 48, .int .i64 2], .str 2 48, []⟩,
  ⟨[.int .i64 0, .int .i64 3], .str 3 0, []⟩,
  ⟨[.int .i64 5, .int .i64 1], .str 1 5, []⟩,
  ⟨[.int .i64 1, .int .i64 1], .str 1 1, []⟩,
  ⟨[.int .i64 3, .int .i64 1], .str 1 3, []⟩,
  ⟨[.int .i64 10, .int .i64 1], .str 1 10, []⟩,
  ⟨[.int .i64 46, .int .i64 2], .str 2 46, []⟩,
  ⟨[.int .i64 5, .int .i64 3], .str 3 5, []⟩,
  ⟨[.int .i64 45, .int .i64 2], .str 2 45, []⟩]
noncomputable def memoT (k : Nat) (_ : List AV) : List Row := match k with
  | 0 => tab0
  | 1 => tab1
  | _ => []
noncomputable abbrev memoTM := memoT
noncomputable def primT (k : Nat) : List AV → Heap → Option (AV × Heap) := match k with
  | 3 => sortedStr isItS 9
  | 4 => sortedInt isItI 3
  | 5 => repeatP
  | _ => noPrim k
abbrev hook0 : Hook := ⟨lookN sumL, lookN extL, fun _ _ => [], noPrim⟩
noncomputable abbrev hookA : Hook := ⟨lookN sumLA, lookN extL, memoT, primT⟩
noncomputable abbrev hookM : Hook := ⟨lookN sumLM, lookN extL, memoTM, primT⟩
def key0 : Key := ⟨.d0, .d0, .d1, .d0, .d0⟩
def key4 : Key := ⟨.d0, .d0, .d0, .d0, .d4⟩
def laidL : List (Nat × AObj) := []
def tot (_ : Nat) : Nat := 256
end Go.Proofs.YtdeahggaclcldaaGreat
