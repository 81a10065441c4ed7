/- The functions of this program that the evaluator takes by a contract, and what it knows at the start. No conditions. -/
import Derived.Test.YtdkbfimccddikaaGreatDoorVH
import Derived.Test.YtdkbfimccddikaaGreatDoorSh
import Derived.Test.YtdkbfimccddikaaGreatDoorSt
import Derived.Test.YtdkbfimccddikaaGreatDoorTmW
import Derived.KernelRfl
namespace Go.Proofs.YtdkbfimccddikaaGreatDoor
open Go.VM
def extL : List (Nat × Nat) := [(472, 4), (251, 5), (583, 1), (562, 2), (250, 3), (599, 6), (127, 7)]
def sumL : List (Nat × Nat) := [(201, 1), (297, 1), (126, 2)]
def sumLA : List (Nat × Nat) := [(301, 4), (456, 5), (93, 7), (244, 8), (52, 9), (454, 10), (201, 1), (297, 1), (126, 2)]
def sumLM : List (Nat × Nat) := [(7, 3), (13, 13), (14, 14), (32, 12), (132, 11), (301, 4), (456, 5), (93, 7), (244, 8), (52, 9), (454, 10), (201, 1), (297, 1), (126, 2)]
def pc (a b c d e f : Nat) : Row := ⟨[.str a b, .str c d], .tup [.str e f, .int .i64 0], []⟩
def tab0 : List Row := [
  ⟨[.str 0 0, .str 1 47], .tup [.str 0 0, .int .i64 0], []⟩,
  ⟨[.str 0 0, .str 6 126866613363247], .tup [.str 5 495572708450, .int .i64 0], []⟩,
  ⟨[.str 0 0, .str 10 563832672304467135980079], .tup [.str 9 2202471376189324749922, .int .i64 0], []⟩,
  ⟨[.str 0 0, .str 2 25647], .tup [.str 1 100, .int .i64 0], []⟩,
  ⟨[.str 0 0, .str 2 25903], .tup [.str 1 101, .int .i64 0], []⟩,
  ⟨[.str 0 0, .str 2 26159], .tup [.str 1 102, .int .i64 0], []⟩,
  ⟨[.str 0 0, .str 2 26415], .tup [.str 1 103, .int .i64 0], []⟩,
  ⟨[.str 0 0, .str 7 32495402475416623], .tup [.str 6 126935165919596, .int .i64 0], []⟩,
  ⟨[.str 0 0, .str 20 275040073356223087138188937964025693655099599919], .tup [.str 19 1074375286547746434133550538921975365840232812, .int .i64 0], []⟩,
  ⟨[.str 0 0, .str 20 275039900498108008717173528693971040431140596783], .tup [.str 19 1074374611320734409051459096460824376684142956, .int .i64 0], []⟩,
  ⟨[.str 0 0, .str 11 144341164109961136265325615], .tup [.str 10 563832672304535688536428, .int .i64 0], []⟩,
  ⟨[.str 0 0, .str 4 842100527], .tup [.str 3 3289455, .int .i64 0], []⟩,
  ⟨[.str 0 0, .str 3 3370799], .tup [.str 2 13167, .int .i64 0], []⟩,
  ⟨[.str 0 0, .str 3 3567407], .tup [.str 2 13935, .int .i64 0], []⟩,
  ⟨[.str 0 0, .str 3 3764015], .tup [.str 2 14703, .int .i64 0], []⟩,
  ⟨[.str 0 0, .str 6 125780121056303], .tup [.str 5 491328597876, .int .i64 0], []⟩,
  ⟨[.str 0 0, .str 10 563832672303380643673135], .tup [.str 9 2202471376185080639348, .int .i64 0], []⟩,
  ⟨[.str 0 0, .str 12 31398681604702278249750688815], .tup [.str 11 122651100018368274413088628, .int .i64 0], []⟩,
  ⟨[.str 0 0, .str 13 3816938076910636131764552037423], .tup [.str 12 14909914362932172389705281396, .int .i64 0], []⟩,
  ⟨[.str 0 0, .str 14 977135843019677487503658156258351], .tup [.str 13 3816936886795615185561164672884, .int .i64 0], []⟩,
  ⟨[.str 0 0, .str 13 3816939285836455746393726743599], .tup [.str 12 14909919085298655259350495092, .int .i64 0], []⟩,
  ⟨[.str 0 0, .str 13 3816940494762275361022901449775], .tup [.str 12 14909923807665138128995708788, .int .i64 0], []⟩,
  ⟨[.str 0 0, .str 13 3816941703688094975652076155951], .tup [.str 12 14909928530031620998640922484, .int .i64 0], []⟩,
  ⟨[.str 0 0, .str 13 3816944121539734204910425568303], .tup [.str 12 14909937974764586737931349876, .int .i64 0], []⟩,
  ⟨[.str 0 0, .str 13 3816946539391373434168774980655], .tup [.str 12 14909947419497552477221777268, .int .i64 0], []⟩,
  ⟨[.str 0 0, .str 14 977135843019695934247731865809967], .tup [.str 13 3816936886795687243155202600820, .int .i64 0], []⟩,
  ⟨[.str 0 0, .str 14 977136152504705755592800590591023], .tup [.str 13 3816938095721506857784377306996, .int .i64 0], []⟩,
  ⟨[.str 0 0, .str 13 3816939285854902490467436295215], .tup [.str 12 14909919085370712853388423028, .int .i64 0], []⟩,
  ⟨[.str 0 0, .str 13 3816942912632361334354960413743], .tup [.str 12 14909933252470161462324064116, .int .i64 0], []⟩,
  ⟨[.str 0 0, .str 13 3816944121558180948984135119919], .tup [.str 12 14909937974836644331969277812, .int .i64 0], []⟩,
  ⟨[.str 0 0, .str 13 3816945330484000563613309826095], .tup [.str 12 14909942697203127201614491508, .int .i64 0], []⟩,
  ⟨[.str 0 0, .str 13 3816947748335639792871659238447], .tup [.str 12 14909952141936092940904918900, .int .i64 0], []⟩,
  ⟨[.str 0 0, .str 1 100], .tup [.str 1 100, .int .i64 0], []⟩,
  ⟨[.str 0 0, .str 1 101], .tup [.str 1 101, .int .i64 0], []⟩,
  ⟨[.str 0 0, .str 1 102], .tup [.str 1 102, .int .i64 0], []⟩,
  ⟨[.str 0 0, .str 1 103], .tup [.str 1 103, .int .i64 0], []⟩,
  ⟨[.str 0 0, .str 3 3289455], .tup [.str 3 3289455, .int .i64 0], []⟩,
  ⟨[.str 0 0, .str 2 13167], .tup [.str 2 13167, .int .i64 0], []⟩,
  ⟨[.str 0 0, .str 2 13935], .tup [.str 2 13935, .int .i64 0], []⟩,
  ⟨[.str 0 0, .str 2 14703], .tup [.str 2 14703, .int .i64 0], []⟩]
def tab1 : List Row := [
  ⟨[.int .i64 0, .int .i64 2], .str 2 0, []⟩,
  ⟨[.int .i64 0, .int .i64 3], .str 3 0, []⟩,
  ⟨[.int .i64 1, .int .i64 1], .str 1 1, []⟩,
  ⟨[.int .i64 45, .int .i64 2], .str 2 45, []⟩,
  ⟨[.int .i64 5, .int .i64 1], .str 1 5, []⟩,
  ⟨[.int .i64 53, .int .i64 2], .str 2 53, []⟩,
  ⟨[.int .i64 54, .int .i64 2], .str 2 54, []⟩,
  ⟨[.int .i64 6, .int .i64 1], .str 1 6, []⟩]
noncomputable def memoT (k : Nat) (_ : List AV) : List Row := match k with
  | 0 => tab0
  | 1 => tab1
  | _ => []
noncomputable abbrev memoTM := memoT
def lims : List (Nat × Nat) := [(1, 256), (2, 4096), (3, 1024)]
noncomputable def primT (k : Nat) : List AV → Heap → Option (AV × Heap) := match k with
  | 0 => liftTab (fun a => (fun _ => tab0) a)
  | 1 => fun a h => orTwo (numberP lims a h) (liftTab (fun a => (fun _ => tab1) a) a h)
  | 3 => sortedStrT isItS 9
  | 4 => sortedInt isItI 3
  | 5 => repeatP
  | 6 => indexBits
  | _ => noPrim k
abbrev hook0 : Hook := ⟨lookN sumL, lookN extL, fun _ _ => [], noPrim⟩
noncomputable abbrev hookA : Hook := ⟨lookN sumLA, lookN extL, memoT, primT⟩
def sumLB : List (Nat × Nat) := [(132, 11), (301, 4), (456, 5), (93, 7), (244, 8), (52, 9), (454, 10), (201, 1), (297, 1), (126, 2)]
noncomputable def primTB (k : Nat) : List AV → Heap → Option (AV × Heap) := match k with
  | 7 => fun a h => mrowX a h trows
  | k => primT k
noncomputable abbrev hookB : Hook := ⟨lookN sumLB, lookN extL, memoT, primTB⟩
def sumLC : List (Nat × Nat) := [(32, 12), (132, 11), (301, 4), (456, 5), (93, 7), (244, 8), (52, 9), (454, 10), (201, 1), (297, 1), (126, 2)]
def sumLD : List (Nat × Nat) := [(13, 13), (14, 14), (32, 12), (132, 11), (301, 4), (456, 5), (93, 7), (244, 8), (52, 9), (454, 10), (201, 1), (297, 1), (126, 2)]
noncomputable def primTC (k : Nat) : List AV → Heap → Option (AV × Heap) := match k with
  | 8 => fun a h => mrowX a h crows
  | k => primTB k
noncomputable def primTD (k : Nat) : List AV → Heap → Option (AV × Heap) := match k with
  | 9 => fun a h => mrowX a h nrows
  | 10 => fun a h => mrowX a h drows
  | k => primTC k
noncomputable abbrev hookC : Hook := ⟨lookN sumLC, lookN extL, memoT, primTC⟩
noncomputable abbrev hookD : Hook := ⟨lookN sumLD, lookN extL, memoT, primTD⟩
def mxI : List AV → Nat → Nat
  | [], m => m
  | .int .i64 (.ofNat n) :: r, m => mxI r (cond (Nat.ble m n) n m)
  | _ :: r, m => mxI r m
def fpN (o : Option AObj) : Nat := match o with
  | some (.cells _ cs _ _) => mxI cs 0
  | _ => 0
noncomputable def selL : List (Nat × List MRow) := [(16, [cr0]), (52, [cr43]), (72, [cr1]), (82, [cr44]), (102, [cr2]), (132, [cr3]), (162, [cr4]), (192, [cr5]), (222, [cr6, cr31]), (252, [cr7, cr13, cr19, cr25, cr32, cr33, cr37]), (282, [cr8, cr14, cr20, cr26, cr34, cr38]), (312, [cr9, cr15, cr21, cr27, cr35, cr39]), (342, [cr10, cr16, cr22, cr28, cr36, cr40, cr41]), (372, [cr11, cr17, cr23, cr29, cr42]), (402, [cr12, cr18, cr24, cr30])]
noncomputable def selG (n : Nat) (l : List (Nat × List MRow)) : List MRow := List.rec (motive := fun _ => List MRow) crows (fun p _ r => cond (Nat.beq p.1 n) p.2 r) l
def sumLE : List (Nat × Nat) := [(521, 16), (32, 12), (132, 11), (301, 4), (456, 5), (93, 7), (244, 8), (52, 9), (454, 10), (201, 1), (297, 1), (126, 2)]
noncomputable def primTE (k : Nat) : List AV → Heap → Option (AV × Heap) := match k with
  | 12 => fun a h => orowP a h yrows
  | 8 => fun a h => mrowX a h (selG (fpN (h.get k1)) selL)
  | k => primTC k
noncomputable abbrev hookE : Hook := ⟨lookN sumLE, lookN extL, memoT, primTE⟩
noncomputable abbrev hookM : Hook := ⟨lookN sumLM, lookN extL, memoTM, primTD⟩
def key0 : Key := ⟨.d0, .d0, .d1, .d0, .d0⟩
def key4 : Key := ⟨.d0, .d0, .d0, .d0, .d4⟩
def keyI : Key := ⟨.d7, .d7, .d7, .d7, .d7⟩
def spaceZ : List Int := [0, 0, 0, 0, 0, 0, 0, 0, 0, 1, 1, 1, 1, 1, 0, 0, 0, 0, 0, 0, 0, 0, 0, 0, 0, 0, 0, 0, 0, 0, 0, 0, 1, 0, 0, 0, 0, 0, 0, 0, 0, 0, 0, 0, 0, 0, 0, 0, 0, 0, 0, 0, 0, 0, 0, 0, 0, 0, 0, 0, 0, 0, 0, 0, 0, 0, 0, 0, 0, 0, 0, 0, 0, 0, 0, 0, 0, 0, 0, 0, 0, 0, 0, 0, 0, 0, 0, 0, 0, 0, 0, 0, 0, 0, 0, 0, 0, 0, 0, 0, 0, 0, 0, 0, 0, 0, 0, 0, 0, 0, 0, 0, 0, 0, 0, 0, 0, 0, 0, 0, 0, 0, 0, 0, 0, 0, 0, 0, 0, 0, 0, 0, 0, 0, 0, 0, 0, 0, 0, 0, 0, 0, 0, 0, 0, 0, 0, 0, 0, 0, 0, 0, 0, 0, 0, 0, 0, 0, 0, 0, 0, 0, 0, 0, 0, 0, 0, 0, 0, 0, 0, 0, 0, 0, 0, 0, 0, 0, 0, 0, 0, 0, 0, 0, 0, 0, 0, 0, 0, 0, 0, 0, 0, 0, 0, 0, 0, 0, 0, 0, 0, 0, 0, 0, 0, 0, 0, 0, 0, 0, 0, 0, 0, 0, 0, 0, 0, 0, 0, 0, 0, 0, 0, 0, 0, 0, 0, 0, 0, 0, 0, 0, 0, 0, 0, 0, 0, 0, 0, 0, 0, 0, 0, 0, 0, 0, 0, 0, 0, 0, 0, 0, 0, 0, 0, 0]
def keyTw : Key := ⟨.d0, .d0, .d0, .d0, .d5⟩
def laidL : List (Nat × AObj) := [(1, .fixed 0 (spaceZ.map fun z => AV.int .u8 z))]
def tot (_ : Nat) : Nat := 256
abbrev QT (l : List MRow) : Prop := @rowsX hookA Tryz.prog laidL 132 keyTw 500000 l = true
abbrev QC (l : List MRow) : Prop := @rowsX hookB Tryz.prog laidL 32 keyTw 500000 l = true
abbrev QN (l : List MRow) : Prop := @rowsX hookC Tryz.prog laidL 13 keyTw 500000 l = true
abbrev QD (l : List MRow) : Prop := @rowsX hookE Tryz.prog laidL 14 keyTw 500000 l = true
end Go.Proofs.YtdkbfimccddikaaGreatDoor
