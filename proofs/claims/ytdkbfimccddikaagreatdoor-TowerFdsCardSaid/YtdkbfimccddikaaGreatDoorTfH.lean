/- The functions of this program that the evaluator takes by a contract, and what it knows at the start. No conditions. -/
import Derived.Test.YtdkbfimccddikaaGreatDoorUH
import Derived.Test.YtdkbfimccddikaaGreatDoorSh
import Derived.Test.YtdkbfimccddikaaGreatDoorSv
import Derived.Test.YtdkbfimccddikaaGreatDoorUL
import Derived.Test.YtdkbfimccddikaaGreatDoorTfW
import Derived.KernelRfl
namespace Go.Proofs.YtdkbfimccddikaaGreatDoor
open Go.VM
def extL : List (Nat × Nat) := [(472, 4), (251, 5), (583, 1), (562, 2), (250, 3), (599, 6), (127, 7)]
def sumL : List (Nat × Nat) := [(201, 1), (297, 1), (126, 2)]
def sumLA : List (Nat × Nat) := [(301, 4), (456, 5), (93, 7), (244, 8), (52, 9), (454, 10), (201, 1), (297, 1), (126, 2)]
def sumLM : List (Nat × Nat) := [(7, 3), (13, 13), (14, 14), (32, 12), (132, 11), (301, 4), (456, 5), (93, 7), (244, 8), (52, 9), (454, 10), (201, 1), (297, 1), (126, 2)]
def pc (a b c d e f : Nat) : Row := ⟨[.str a b, .str c d], .tup [.str e f, .int .i64 0], []⟩
def x0 (l c : Nat) : Row := ⟨[.str 0 0, .str l c], .tup [.str (Nat.add (Nat.sub l 7) 6) (Nat.add 52168375103348 (Nat.mul (Nat.div c 72057594037927936) 281474976710656)), .int .i64 0], []⟩
def t0_00 : N8 (List Row) := ⟨[],
  [],
  [x0 13 3816945330484000563613309826095],
  [],
  [],
  [],
  [],
  []⟩
def t0_01 : N8 (List Row) := ⟨[],
  [],
  [],
  [],
  [],
  [],
  [],
  []⟩
def t0_02 : N8 (List Row) := ⟨[],
  [],
  [],
  [],
  [],
  [],
  [],
  []⟩
def t0_03 : N8 (List Row) := ⟨[],
  [],
  [],
  [],
  [],
  [],
  [x0 10 563832672303380643673135],
  []⟩
def t0_04 : N8 (List Row) := ⟨[],
  [],
  [],
  [],
  [x0 13 3816940494762275361022901449775],
  [],
  [],
  []⟩
def t0_05 : N8 (List Row) := ⟨[],
  [x0 13 3816947748317193048797949686831],
  [],
  [],
  [],
  [],
  [pc 0 0 4 825388847 3 3224175],
  [pc 0 0 1 47 0 0]⟩
def t0_06 : N8 (List Row) := ⟨[],
  [],
  [],
  [],
  [],
  [],
  [],
  []⟩
def t0_07 : N8 (List Row) := ⟨[pc 0 0 3 3682671 3 3682671],
  [],
  [],
  [],
  [],
  [],
  [],
  []⟩
def t0_10 : N8 (List Row) := ⟨[],
  [],
  [],
  [],
  [],
  [x0 14 977136461989715576937869315372079],
  [],
  []⟩
def t0_11 : N8 (List Row) := ⟨[],
  [pc 0 0 10 563832672304467135980079 9 2202471376189324749922],
  [],
  [],
  [],
  [],
  [],
  []⟩
def t0_12 : N8 (List Row) := ⟨[],
  [],
  [],
  [],
  [],
  [],
  [],
  []⟩
def t0_13 : N8 (List Row) := ⟨[],
  [],
  [],
  [],
  [],
  [],
  [],
  []⟩
def t0_14 : N8 (List Row) := ⟨[],
  [],
  [],
  [],
  [pc 0 0 1 100 1 100],
  [pc 0 0 1 101 1 101],
  [pc 0 0 1 102 1 102],
  [pc 0 0 1 103 1 103]⟩
def t0_15 : N8 (List Row) := ⟨[pc 0 0 1 104 1 104],
  [],
  [pc 0 0 11 144341164109961136265325615 10 563832672304535688536428],
  [],
  [],
  [],
  [],
  []⟩
def t0_16 : N8 (List Row) := ⟨[],
  [],
  [],
  [],
  [],
  [],
  [],
  []⟩
def t0_17 : N8 (List Row) := ⟨[x0 13 3816939285836455746393726743599],
  [],
  [],
  [],
  [],
  [x0 13 3816946539391373434168774980655],
  [],
  []⟩
def t0_20 : N8 (List Row) := ⟨[],
  [],
  [],
  [pc 0 0 4 942763823 3 3682671],
  [],
  [],
  [],
  []⟩
def t0_21 : N8 (List Row) := ⟨[],
  [],
  [],
  [],
  [],
  [],
  [],
  []⟩
def t0_22 : N8 (List Row) := ⟨[],
  [],
  [],
  [],
  [],
  [],
  [],
  []⟩
def t0_23 : N8 (List Row) := ⟨[],
  [],
  [],
  [],
  [],
  [],
  [],
  []⟩
def t0_24 : N8 (List Row) := ⟨[],
  [],
  [],
  [],
  [],
  [],
  [],
  []⟩
def t0_25 : N8 (List Row) := ⟨[],
  [pc 0 0 3 3224175 3 3224175],
  [x0 13 3816942912632361334354960413743],
  [],
  [],
  [],
  [],
  []⟩
def t0_26 : N8 (List Row) := ⟨[],
  [],
  [],
  [],
  [],
  [],
  [],
  []⟩
def t0_27 : N8 (List Row) := ⟨[],
  [],
  [],
  [],
  [],
  [],
  [],
  []⟩
def t0_30 : N8 (List Row) := ⟨[pc 0 0 2 13935 2 13935],
  [],
  [],
  [x0 14 977136152504705755592800590591023],
  [],
  [pc 0 0 2 25647 1 100],
  [],
  []⟩
def t0_31 : N8 (List Row) := ⟨[pc 0 0 2 26159 1 102, pc 0 0 20 275040073356223087138188937964025693655099599919 19 1074375286547746434133550538921975365840232812, x0 14 977137390444745040973075489715247],
  [pc 0 0 3 3370799 2 13167],
  [],
  [pc 0 0 2 26671 1 104],
  [x0 13 3816938076910636131764552037423],
  [],
  [],
  []⟩
def t0_32 : N8 (List Row) := ⟨[],
  [x0 13 3816945330465553819539600274479],
  [],
  [],
  [],
  [],
  [],
  []⟩
def t0_33 : N8 (List Row) := ⟨[],
  [],
  [],
  [],
  [],
  [],
  [pc 0 0 7 32495402475416623 6 126935165919596],
  []⟩
def t0_34 : N8 (List Row) := ⟨[],
  [],
  [],
  [],
  [],
  [],
  [],
  []⟩
def t0_35 : N8 (List Row) := ⟨[],
  [],
  [],
  [],
  [],
  [],
  [pc 0 0 4 842100527 3 3289455],
  []⟩
def t0_36 : N8 (List Row) := ⟨[],
  [],
  [],
  [],
  [],
  [],
  [],
  [pc 0 0 4 875720495 3 3420783]⟩
def t0_37 : N8 (List Row) := ⟨[],
  [],
  [],
  [],
  [],
  [],
  [],
  []⟩
def t0_40 : N8 (List Row) := ⟨[],
  [],
  [],
  [],
  [],
  [],
  [],
  []⟩
def t0_41 : N8 (List Row) := ⟨[],
  [],
  [],
  [],
  [],
  [],
  [],
  []⟩
def t0_42 : N8 (List Row) := ⟨[],
  [],
  [],
  [],
  [],
  [pc 0 0 6 125780121056303 5 491328597876],
  [],
  []⟩
def t0_43 : N8 (List Row) := ⟨[],
  [],
  [],
  [],
  [],
  [],
  [],
  []⟩
def t0_44 : N8 (List Row) := ⟨[],
  [],
  [],
  [],
  [],
  [x0 13 3816944121539734204910425568303],
  [],
  []⟩
def t0_45 : N8 (List Row) := ⟨[],
  [pc 0 0 3 3289455 3 3289455],
  [],
  [],
  [],
  [],
  [],
  [pc 0 0 3 3420783 3 3420783]⟩
def t0_46 : N8 (List Row) := ⟨[],
  [],
  [],
  [],
  [],
  [],
  [],
  []⟩
def t0_47 : N8 (List Row) := ⟨[],
  [],
  [],
  [],
  [],
  [],
  [],
  []⟩
def t0_50 : N8 (List Row) := ⟨[pc 0 0 6 126866613363247 5 495572708450],
  [x0 14 977135843019695934247731865809967],
  [],
  [],
  [],
  [],
  [x0 14 977137080959735219628006764934191],
  []⟩
def t0_51 : N8 (List Row) := ⟨[],
  [],
  [],
  [],
  [],
  [],
  [],
  [pc 0 0 3 3567407 2 13935]⟩
def t0_52 : N8 (List Row) := ⟨[],
  [],
  [],
  [],
  [],
  [],
  [],
  [x0 13 3816947748335639792871659238447]⟩
def t0_53 : N8 (List Row) := ⟨[],
  [],
  [],
  [],
  [],
  [],
  [],
  []⟩
def t0_54 : N8 (List Row) := ⟨[],
  [],
  [],
  [],
  [],
  [],
  [],
  []⟩
def t0_55 : N8 (List Row) := ⟨[],
  [],
  [],
  [],
  [],
  [],
  [],
  []⟩
def t0_56 : N8 (List Row) := ⟨[],
  [],
  [],
  [],
  [],
  [],
  [],
  []⟩
def t0_57 : N8 (List Row) := ⟨[],
  [],
  [],
  [],
  [],
  [],
  [],
  []⟩
def t0_60 : N8 (List Row) := ⟨[],
  [],
  [],
  [],
  [],
  [],
  [],
  []⟩
def t0_61 : N8 (List Row) := ⟨[],
  [],
  [],
  [],
  [],
  [],
  [],
  []⟩
def t0_62 : N8 (List Row) := ⟨[],
  [],
  [],
  [],
  [],
  [],
  [],
  []⟩
def t0_63 : N8 (List Row) := ⟨[],
  [],
  [],
  [],
  [],
  [],
  [],
  [pc 0 0 20 275039900498108008717173528693971040431140596783 19 1074374611320734409051459096460824376684142956]⟩
def t0_64 : N8 (List Row) := ⟨[],
  [],
  [],
  [],
  [],
  [],
  [x0 13 3816939285854902490467436295215],
  []⟩
def t0_65 : N8 (List Row) := ⟨[],
  [],
  [],
  [x0 13 3816946539409820178242484532271],
  [],
  [],
  [],
  [pc 0 0 3 3486063 3 3486063]⟩
def t0_66 : N8 (List Row) := ⟨[],
  [],
  [],
  [],
  [],
  [],
  [],
  [pc 0 0 4 892432175 3 3486063]⟩
def t0_67 : N8 (List Row) := ⟨[],
  [],
  [pc 0 0 2 13167 2 13167],
  [],
  [],
  [],
  [],
  [x0 12 31398681604702278249750688815]⟩
def t0_70 : N8 (List Row) := ⟨[],
  [],
  [],
  [pc 0 0 2 14703 2 14703],
  [x0 14 977136771474725398282938040153135],
  [pc 0 0 2 25903 1 101],
  [],
  []⟩
def t0_71 : N8 (List Row) := ⟨[pc 0 0 2 26415 1 103],
  [],
  [],
  [],
  [],
  [x0 13 3816941703688094975652076155951],
  [],
  []⟩
def t0_72 : N8 (List Row) := ⟨[],
  [],
  [],
  [],
  [],
  [pc 0 0 3 3764015 2 14703],
  [],
  []⟩
def t0_73 : N8 (List Row) := ⟨[],
  [],
  [],
  [],
  [],
  [],
  [],
  []⟩
def t0_74 : N8 (List Row) := ⟨[],
  [],
  [],
  [],
  [],
  [],
  [],
  []⟩
def t0_75 : N8 (List Row) := ⟨[],
  [],
  [],
  [],
  [],
  [],
  [],
  []⟩
def t0_76 : N8 (List Row) := ⟨[],
  [],
  [],
  [],
  [],
  [],
  [],
  []⟩
def t0_77 : N8 (List Row) := ⟨[],
  [],
  [],
  [],
  [],
  [],
  [],
  []⟩
def tab0 : N8 (N8 (N8 (List Row))) := ⟨⟨t0_00, t0_01, t0_02, t0_03, t0_04, t0_05, t0_06, t0_07⟩, ⟨t0_10, t0_11, t0_12, t0_13, t0_14, t0_15, t0_16, t0_17⟩, ⟨t0_20, t0_21, t0_22, t0_23, t0_24, t0_25, t0_26, t0_27⟩, ⟨t0_30, t0_31, t0_32, t0_33, t0_34, t0_35, t0_36, t0_37⟩, ⟨t0_40, t0_41, t0_42, t0_43, t0_44, t0_45, t0_46, t0_47⟩, ⟨t0_50, t0_51, t0_52, t0_53, t0_54, t0_55, t0_56, t0_57⟩, ⟨t0_60, t0_61, t0_62, t0_63, t0_64, t0_65, t0_66, t0_67⟩, ⟨t0_70, t0_71, t0_72, t0_73, t0_74, t0_75, t0_76, t0_77⟩⟩
def tab1 : List Row := [
  ⟨[.int .i64 0, .int .i64 2], .str 2 0, []⟩,
  ⟨[.int .i64 0, .int .i64 3], .str 3 0, []⟩,
  ⟨[.int .i64 1, .int .i64 1], .str 1 1, []⟩,
  ⟨[.int .i64 45, .int .i64 2], .str 2 45, []⟩,
  ⟨[.int .i64 5, .int .i64 1], .str 1 5, []⟩,
  ⟨[.int .i64 53, .int .i64 2], .str 2 53, []⟩,
  ⟨[.int .i64 54, .int .i64 2], .str 2 54, []⟩,
  ⟨[.int .i64 6, .int .i64 1], .str 1 6, []⟩]
noncomputable def memoT (k : Nat) (a : List AV) : List Row := match k with
  | 0 => bkt tab0 a
  | 1 => tab1
  | _ => []
noncomputable abbrev memoTM := memoT
def lims : List (Nat × Nat) := [(1, 256), (2, 4096), (3, 1024)]
noncomputable def primT (k : Nat) : List AV → Heap → Option (AV × Heap) := match k with
  | 0 => liftTab (fun a => bkt tab0 a)
  | 1 => fun a h => orTwo (numberP lims a h) (liftTab (fun a => (fun _ => tab1) a) a h)
  | 3 => sortedStrT isItS 9
  | 4 => sortedInt isItI 3
  | 5 => repeatP
  | 6 => indexBits
  | _ => noPrim k
abbrev hook0 : Hook := ⟨lookN sumL, lookN extL, fun _ _ => [], noPrim⟩
noncomputable abbrev hookA : Hook := ⟨lookN sumLA, lookN extL, memoT, primT⟩
def sumLB : List (Nat × Nat) := [(132, 11), (301, 4), (456, 5), (93, 7), (244, 8), (52, 9), (454, 10), (201, 1), (297, 1), (126, 2)]
noncomputable def primTB (k : Nat) : List AV → Heap → Option (AV × Heap) := match k with
  | 7 => fun a h => mrowX a h trows
  | k => primT k
noncomputable abbrev hookB : Hook := ⟨lookN sumLB, lookN extL, memoT, primTB⟩
def sumLC : List (Nat × Nat) := [(32, 12), (132, 11), (301, 4), (456, 5), (93, 7), (244, 8), (52, 9), (454, 10), (201, 1), (297, 1), (126, 2)]
def sumLD : List (Nat × Nat) := [(13, 13), (14, 14), (32, 12), (132, 11), (301, 4), (456, 5), (93, 7), (244, 8), (52, 9), (454, 10), (201, 1), (297, 1), (126, 2)]
noncomputable def primTC (k : Nat) : List AV → Heap → Option (AV × Heap) := match k with
  | 8 => fun a h => mrowX a h crows
  | k => primTB k
noncomputable def primTD (k : Nat) : List AV → Heap → Option (AV × Heap) := match k with
  | 9 => fun a h => mrowX a h nrows
  | 10 => fun a h => mrowX a h drows
  | k => primTC k
noncomputable abbrev hookC : Hook := ⟨lookN sumLC, lookN extL, memoT, primTC⟩
noncomputable abbrev hookD : Hook := ⟨lookN sumLD, lookN extL, memoT, primTD⟩
def mxI : List AV → Nat → Nat
  | [], m => m
  | .int .i64 (.ofNat n) :: r, m => mxI r (cond (Nat.ble m n) n m)
  | _ :: r, m => mxI r m
def fpN (o : Option AObj) : Nat := match o with
  | some (.cells _ cs _ _) => mxI cs 0
  | _ => 0
noncomputable def selL : List (Nat × List MRow) := [(16, [cr0]), (52, [cr105]), (72, [cr1]), (82, [cr106]), (102, [cr2]), (132, [cr3]), (162, [cr4]), (192, [cr5]), (222, [cr6, cr7]), (252, [cr8, cr9, cr40, cr72]), (282, [cr10, cr41, cr73]), (312, [cr11, cr12, cr14, cr42, cr74, cr75]), (342, [cr13, cr15, cr16, cr17, cr18, cr20, cr21, cr23, cr43, cr44, cr46, cr76]), (372, [cr19, cr22, cr24, cr25, cr26, cr27, cr29, cr30, cr32, cr45, cr47, cr48, cr49, cr50, cr52, cr53, cr55, cr77, cr78, cr79, cr80, cr82, cr83, cr85]), (402, [cr28, cr31, cr33, cr34, cr51, cr54, cr56, cr57, cr58, cr59, cr61, cr62, cr64, cr81, cr84, cr86, cr87, cr88, cr89, cr91, cr92, cr94]), (432, [cr35, cr36, cr60, cr63, cr65, cr66, cr90, cr93, cr95, cr96, cr97, cr98]), (462, [cr37, cr38, cr67, cr68, cr99, cr100]), (492, [cr39, cr69, cr70, cr101, cr102]), (522, [cr71, cr103, cr104])]
noncomputable def selG (n : Nat) (l : List (Nat × List MRow)) : List MRow := List.rec (motive := fun _ => List MRow) crows (fun p _ r => cond (Nat.beq p.1 n) p.2 r) l
def sumLE : List (Nat × Nat) := [(521, 16), (32, 12), (132, 11), (301, 4), (456, 5), (93, 7), (244, 8), (52, 9), (454, 10), (201, 1), (297, 1), (126, 2)]
noncomputable def primTE (k : Nat) : List AV → Heap → Option (AV × Heap) := match k with
  | 12 => fun a h => orowP a h yrows
  | 8 => fun a h => mrowX a h (selG (fpN (h.get k1)) selL)
  | k => primTC k
noncomputable abbrev hookE : Hook := ⟨lookN sumLE, lookN extL, memoT, primTE⟩
def sumLT : List (Nat × Nat) := [(208, 17), (301, 4), (456, 5), (93, 7), (244, 8), (52, 9), (454, 10), (201, 1), (297, 1), (126, 2)]
noncomputable def primTT (k : Nat) : List AV → Heap → Option (AV × Heap) := match k with
  | 13 => cpP 389 12
  | k => primT k
noncomputable abbrev hookT : Hook := ⟨lookN sumLT, lookN extL, memoT, primTT⟩
noncomputable abbrev hookM : Hook := ⟨lookN sumLM, lookN extL, memoTM, primTD⟩
def key0 : Key := ⟨.d0, .d0, .d1, .d0, .d0⟩
def key4 : Key := ⟨.d0, .d0, .d0, .d0, .d4⟩
def keyI : Key := ⟨.d7, .d7, .d7, .d7, .d7⟩
def spaceZ : List Int := [0, 0, 0, 0, 0, 0, 0, 0, 0, 1, 1, 1, 1, 1, 0, 0, 0, 0, 0, 0, 0, 0, 0, 0, 0, 0, 0, 0, 0, 0, 0, 0, 1, 0, 0, 0, 0, 0, 0, 0, 0, 0, 0, 0, 0, 0, 0, 0, 0, 0, 0, 0, 0, 0, 0, 0, 0, 0, 0, 0, 0, 0, 0, 0, 0, 0, 0, 0, 0, 0, 0, 0, 0, 0, 0, 0, 0, 0, 0, 0, 0, 0, 0, 0, 0, 0, 0, 0, 0, 0, 0, 0, 0, 0, 0, 0, 0, 0, 0, 0, 0, 0, 0, 0, 0, 0, 0, 0, 0, 0, 0, 0, 0, 0, 0, 0, 0, 0, 0, 0, 0, 0, 0, 0, 0, 0, 0, 0, 0, 0, 0, 0, 0, 0, 0, 0, 0, 0, 0, 0, 0, 0, 0, 0, 0, 0, 0, 0, 0, 0, 0, 0, 0, 0, 0, 0, 0, 0, 0, 0, 0, 0, 0, 0, 0, 0, 0, 0, 0, 0, 0, 0, 0, 0, 0, 0, 0, 0, 0, 0, 0, 0, 0, 0, 0, 0, 0, 0, 0, 0, 0, 0, 0, 0, 0, 0, 0, 0, 0, 0, 0, 0, 0, 0, 0, 0, 0, 0, 0, 0, 0, 0, 0, 0, 0, 0, 0, 0, 0, 0, 0, 0, 0, 0, 0, 0, 0, 0, 0, 0, 0, 0, 0, 0, 0, 0, 0, 0, 0, 0, 0, 0, 0, 0, 0, 0, 0, 0, 0, 0, 0, 0, 0, 0, 0, 0]
def keyTw : Key := ⟨.d0, .d0, .d0, .d0, .d5⟩
def laidL : List (Nat × AObj) := [(1, .fixed 0 (spaceZ.map fun z => AV.int .u8 z))]
def tot (_ : Nat) : Nat := 256
abbrev QT (l : List MRow) : Prop := @rowsX hookT Tryz.prog laidL 132 keyTw 500000 l = true
abbrev QC (l : List MRow) : Prop := @rowsX hookB Tryz.prog laidL 32 keyTw 500000 l = true
abbrev QN (l : List MRow) : Prop := @rowsX hookC Tryz.prog laidL 13 keyTw 500000 l = true
abbrev QD (l : List MRow) : Prop := @rowsX hookE Tryz.prog laidL 14 keyTw 500000 l = true
end Go.Proofs.YtdkbfimccddikaaGreatDoor
