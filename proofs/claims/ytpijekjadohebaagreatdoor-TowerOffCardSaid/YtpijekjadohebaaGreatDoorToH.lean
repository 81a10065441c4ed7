/- The functions of this program that the evaluator takes by a contract, and what it knows at the start. No conditions. -/
import Derived.Test.YtpijekjadohebaaGreatDoorVH
import Derived.Test.YtpijekjadohebaaGreatDoorSh
import Derived.Test.YtpijekjadohebaaGreatDoorSt
import Derived.Test.YtpijekjadohebaaGreatDoorToW
import Derived.KernelRfl
namespace Go.Proofs.YtpijekjadohebaaGreatDoor
open Go.VM
def extL : List (Nat × Nat) := [(469, 4), (250, 5), (580, 1), (559, 2), (249, 3), (596, 6), (125, 7)]
def sumL : List (Nat × Nat) := [(200, 1), (295, 1), (124, 2)]
def sumLA : List (Nat × Nat) := [(299, 4), (453, 5), (84, 7), (243, 8), (49, 9), (451, 10), (200, 1), (295, 1), (124, 2)]
def sumLM : List (Nat × Nat) := [(5, 3), (6, 13), (7, 14), (17, 15), (25, 12), (130, 11), (299, 4), (453, 5), (84, 7), (243, 8), (49, 9), (451, 10), (200, 1), (295, 1), (124, 2)]
def tab0 : List Row := [
  ⟨[.str 0 0, .str 1 47], .tup [.str 0 0, .int .i64 0], []⟩,
  ⟨[.str 0 0, .str 6 126866613363247], .tup [.str 5 495572708450, .int .i64 0], []⟩,
  ⟨[.str 0 0, .str 10 563832672304467135980079], .tup [.str 9 2202471376189324749922, .int .i64 0], []⟩,
  ⟨[.str 0 0, .str 2 25647], .tup [.str 1 100, .int .i64 0], []⟩,
  ⟨[.str 0 0, .str 2 25903], .tup [.str 1 101, .int .i64 0], []⟩,
  ⟨[.str 0 0, .str 2 26159], .tup [.str 1 102, .int .i64 0], []⟩,
  ⟨[.str 0 0, .str 4 2016372271], .tup [.str 3 7876454, .int .i64 0], []⟩,
  ⟨[.str 0 0, .str 7 32495402475416623], .tup [.str 6 126935165919596, .int .i64 0], []⟩,
  ⟨[.str 0 0, .str 20 275040073356223087138188937964025693655099599919], .tup [.str 19 1074375286547746434133550538921975365840232812, .int .i64 0], []⟩,
  ⟨[.str 0 0, .str 20 275039900498108008717173528693971040431140596783], .tup [.str 19 1074374611320734409051459096460824376684142956, .int .i64 0], []⟩,
  ⟨[.str 0 0, .str 11 144341164109961136265325615], .tup [.str 10 563832672304535688536428, .int .i64 0], []⟩,
  ⟨[.str 0 0, .str 4 842100527], .tup [.str 3 3289455, .int .i64 0], []⟩,
  ⟨[.str 0 0, .str 4 892432175], .tup [.str 3 3486063, .int .i64 0], []⟩,
  ⟨[.str 0 0, .str 3 3370799], .tup [.str 2 13167, .int .i64 0], []⟩,
  ⟨[.str 0 0, .str 3 3567407], .tup [.str 2 13935, .int .i64 0], []⟩,
  ⟨[.str 0 0, .str 3 3764015], .tup [.str 2 14703, .int .i64 0], []⟩,
  ⟨[.str 0 0, .str 6 125780121056303], .tup [.str 5 491328597876, .int .i64 0], []⟩,
  ⟨[.str 0 0, .str 10 563832672303380643673135], .tup [.str 9 2202471376185080639348, .int .i64 0], []⟩,
  ⟨[.str 0 0, .str 12 31398681604702278249750688815], .tup [.str 11 122651100018368274413088628, .int .i64 0], []⟩,
  ⟨[.str 0 0, .str 13 3816938076910636131764552037423], .tup [.str 12 14909914362932172389705281396, .int .i64 0], []⟩,
  ⟨[.str 0 0, .str 13 3816939285836455746393726743599], .tup [.str 12 14909919085298655259350495092, .int .i64 0], []⟩,
  ⟨[.str 0 0, .str 13 3816940494762275361022901449775], .tup [.str 12 14909923807665138128995708788, .int .i64 0], []⟩,
  ⟨[.str 0 0, .str 13 3816941703688094975652076155951], .tup [.str 12 14909928530031620998640922484, .int .i64 0], []⟩,
  ⟨[.str 0 0, .str 13 3816939285854902490467436295215], .tup [.str 12 14909919085370712853388423028, .int .i64 0], []⟩,
  ⟨[.str 0 0, .str 13 3816942912632361334354960413743], .tup [.str 12 14909933252470161462324064116, .int .i64 0], []⟩,
  ⟨[.str 0 0, .str 13 3816944121558180948984135119919], .tup [.str 12 14909937974836644331969277812, .int .i64 0], []⟩,
  ⟨[.str 0 0, .str 13 3816945330484000563613309826095], .tup [.str 12 14909942697203127201614491508, .int .i64 0], []⟩,
  ⟨[.str 0 0, .str 13 3816946539409820178242484532271], .tup [.str 12 14909947419569610071259705204, .int .i64 0], []⟩,
  ⟨[.str 0 0, .str 13 3816947748335639792871659238447], .tup [.str 12 14909952141936092940904918900, .int .i64 0], []⟩,
  ⟨[.str 0 0, .str 1 100], .tup [.str 1 100, .int .i64 0], []⟩,
  ⟨[.str 0 0, .str 1 101], .tup [.str 1 101, .int .i64 0], []⟩,
  ⟨[.str 0 0, .str 1 102], .tup [.str 1 102, .int .i64 0], []⟩,
  ⟨[.str 0 0, .str 3 7876454], .tup [.str 3 7876454, .int .i64 0], []⟩,
  ⟨[.str 0 0, .str 3 3289455], .tup [.str 3 3289455, .int .i64 0], []⟩,
  ⟨[.str 0 0, .str 3 3486063], .tup [.str 3 3486063, .int .i64 0], []⟩,
  ⟨[.str 0 0, .str 2 13167], .tup [.str 2 13167, .int .i64 0], []⟩,
  ⟨[.str 0 0, .str 2 13935], .tup [.str 2 13935, .int .i64 0], []⟩,
  ⟨[.str 0 0, .str 2 14703], .tup [.str 2 14703, .int .i64 0], []⟩]
def tab1 : List Row := [
  ⟨[.int .i64 0, .int .i64 2], .str 2 0, []⟩,
  ⟨[.int .i64 0, .int .i64 3], .str 3 0, []⟩,
  ⟨[.int .i64 1, .int .i64 1], .str 1 1, []⟩,
  ⟨[.int .i64 11, .int .i64 3], .str 3 11, []⟩,
  ⟨[.int .i64 12, .int .i64 1], .str 1 12, []⟩,
  ⟨[.int .i64 12, .int .i64 3], .str 3 12, []⟩,
  ⟨[.int .i64 19, .int .i64 3], .str 3 19, []⟩,
  ⟨[.int .i64 2, .int .i64 1], .str 1 2, []⟩,
  ⟨[.int .i64 21, .int .i64 3], .str 3 21, []⟩,
  ⟨[.int .i64 24, .int .i64 3], .str 3 24, []⟩,
  ⟨[.int .i64 3, .int .i64 1], .str 1 3, []⟩,
  ⟨[.int .i64 3, .int .i64 3], .str 3 3, []⟩,
  ⟨[.int .i64 30, .int .i64 3], .str 3 30, []⟩,
  ⟨[.int .i64 40, .int .i64 3], .str 3 40, []⟩,
  ⟨[.int .i64 41, .int .i64 3], .str 3 41, []⟩,
  ⟨[.int .i64 45, .int .i64 2], .str 2 45, []⟩,
  ⟨[.int .i64 46, .int .i64 2], .str 2 46, []⟩,
  ⟨[.int .i64 47, .int .i64 2], .str 2 47, []⟩,
  ⟨[.int .i64 48, .int .i64 2], .str 2 48, []⟩,
  ⟨[.int .i64 49, .int .i64 2], .str 2 49, []⟩,
  ⟨[.int .i64 5, .int .i64 1], .str 1 5, []⟩,
  ⟨[.int .i64 50, .int .i64 2], .str 2 50, []⟩,
  ⟨[.int .i64 50, .int .i64 3], .str 3 50, []⟩,
  ⟨[.int .i64 51, .int .i64 2], .str 2 51, []⟩,
  ⟨[.int .i64 52, .int .i64 2], .str 2 52, []⟩,
  ⟨[.int .i64 53, .int .i64 2], .str 2 53, []⟩,
  ⟨[.int .i64 54, .int .i64 2], .str 2 54, []⟩,
  ⟨[.int .i64 55, .int .i64 2], .str 2 55, []⟩,
  ⟨[.int .i64 6, .int .i64 1], .str 1 6, []⟩,
  ⟨[.int .i64 63, .int .i64 3], .str 3 63, []⟩]
noncomputable def memoT (k : Nat) (_ : List AV) : List Row := match k with
  | 0 => tab0
  | 1 => tab1
  | _ => []
noncomputable abbrev memoTM := memoT
noncomputable def primT (k : Nat) : List AV → Heap → Option (AV × Heap) := match k with
  | 3 => sortedStr isItS 9
  | 4 => sortedInt isItI 3
  | 5 => repeatP
  | 6 => indexBits
  | _ => noPrim k
abbrev hook0 : Hook := ⟨lookN sumL, lookN extL, fun _ _ => [], noPrim⟩
noncomputable abbrev hookA : Hook := ⟨lookN sumLA, lookN extL, memoT, primT⟩
def sumLB : List (Nat × Nat) := [(130, 11), (299, 4), (453, 5), (84, 7), (243, 8), (49, 9), (451, 10), (200, 1), (295, 1), (124, 2)]
noncomputable def primTB (k : Nat) : List AV → Heap → Option (AV × Heap) := match k with
  | 7 => fun a h => mrowX a h trows
  | k => primT k
noncomputable abbrev hookB : Hook := ⟨lookN sumLB, lookN extL, memoT, primTB⟩
def sumLC : List (Nat × Nat) := [(25, 12), (130, 11), (299, 4), (453, 5), (84, 7), (243, 8), (49, 9), (451, 10), (200, 1), (295, 1), (124, 2)]
def sumLD : List (Nat × Nat) := [(6, 13), (7, 14), (17, 15), (25, 12), (130, 11), (299, 4), (453, 5), (84, 7), (243, 8), (49, 9), (451, 10), (200, 1), (295, 1), (124, 2)]
noncomputable def primTC (k : Nat) : List AV → Heap → Option (AV × Heap) := match k with
  | 8 => fun a h => mrowX a h crows
  | k => primTB k
noncomputable def primTD (k : Nat) : List AV → Heap → Option (AV × Heap) := match k with
  | 9 => fun a h => mrowX a h nrows
  | 10 => fun a h => mrowX a h drows
  | 11 => fun a h => mrowX a h brows
  | k => primTC k
noncomputable abbrev hookC : Hook := ⟨lookN sumLC, lookN extL, memoT, primTC⟩
noncomputable abbrev hookD : Hook := ⟨lookN sumLD, lookN extL, memoT, primTD⟩
noncomputable abbrev hookM : Hook := ⟨lookN sumLM, lookN extL, memoTM, primTD⟩
def key0 : Key := ⟨.d0, .d0, .d1, .d0, .d0⟩
def key4 : Key := ⟨.d0, .d0, .d0, .d0, .d4⟩
def keyI : Key := ⟨.d7, .d7, .d7, .d7, .d7⟩
def spaceZ : List Int := [0, 0, 0, 0, 0, 0, 0, 0, 0, 1, 1, 1, 1, 1, 0, 0, 0, 0, 0, 0, 0, 0, 0, 0, 0, 0, 0, 0, 0, 0, 0, 0, 1, 0, 0, 0, 0, 0, 0, 0, 0, 0, 0, 0, 0, 0, 0, 0, 0, 0, 0, 0, 0, 0, 0, 0, 0, 0, 0, 0, 0, 0, 0, 0, 0, 0, 0, 0, 0, 0, 0, 0, 0, 0, 0, 0, 0, 0, 0, 0, 0, 0, 0, 0, 0, 0, 0, 0, 0, 0, 0, 0, 0, 0, 0, 0, 0, 0, 0, 0, 0, 0, 0, 0, 0, 0, 0, 0, 0, 0, 0, 0, 0, 0, 0, 0, 0, 0, 0, 0, 0, 0, 0, 0, 0, 0, 0, 0, 0, 0, 0, 0, 0, 0, 0, 0, 0, 0, 0, 0, 0, 0, 0, 0, 0, 0, 0, 0, 0, 0, 0, 0, 0, 0, 0, 0, 0, 0, 0, 0, 0, 0, 0, 0, 0, 0, 0, 0, 0, 0, 0, 0, 0, 0, 0, 0, 0, 0, 0, 0, 0, 0, 0, 0, 0, 0, 0, 0, 0, 0, 0, 0, 0, 0, 0, 0, 0, 0, 0, 0, 0, 0, 0, 0, 0, 0, 0, 0, 0, 0, 0, 0, 0, 0, 0, 0, 0, 0, 0, 0, 0, 0, 0, 0, 0, 0, 0, 0, 0, 0, 0, 0, 0, 0, 0, 0, 0, 0, 0, 0, 0, 0, 0, 0, 0, 0, 0, 0, 0, 0, 0, 0, 0, 0, 0, 0]
def keyTw : Key := ⟨.d0, .d0, .d0, .d0, .d5⟩
def laidL : List (Nat × AObj) := [(1, .fixed 0 (spaceZ.map fun z => AV.int .u8 z))]
def tot (_ : Nat) : Nat := 256
end Go.Proofs.YtpijekjadohebaaGreatDoor
