/- The functions of this program that the evaluator takes by a contract, and what it knows at the start. No conditions. -/
import Derived.Test.YtdkbfimccddikaaGreatDoorUH
import Derived.Test.YtdkbfimccddikaaGreatDoorSh
import Derived.Test.YtdkbfimccddikaaGreatDoorSv
import Derived.Test.YtdkbfimccddikaaGreatDoorUL
import Derived.Test.YtdkbfimccddikaaGreatDoorTlW
import Derived.KernelRfl
namespace Go.Proofs.YtdkbfimccddikaaGreatDoor
open Go.VM
def extL : List (Nat × Nat) := [(472, 4), (251, 5), (583, 1), (562, 2), (250, 3), (599, 6), (127, 7)]
def sumL : List (Nat × Nat) := [(201, 1), (297, 1), (126, 2)]
def sumLA : List (Nat × Nat) := [(301, 4), (456, 5), (93, 7), (244, 8), (52, 9), (454, 10), (201, 1), (297, 1), (126, 2)]
def sumLM : List (Nat × Nat) := [(7, 3), (13, 13), (14, 14), (32, 12), (132, 11), (301, 4), (456, 5), (93, 7), (244, 8), (52, 9), (454, 10), (201, 1), (297, 1), (126, 2)]
def pc (a b c d e f : Nat) : Row := ⟨[.str a b, .str c d], .tup [.str e f, .int .i64 0], []⟩
def x0 (l c : Nat) : Row := ⟨[.str 0 0, .str l c], .tup [.str (Nat.add (Nat.sub l 7) 6) (Nat.add 52168375103348 (Nat.mul (Nat.div c 72057594037927936) 281474976710656)), .int .i64 0], []⟩
def x1 (l c : Nat) : Row := ⟨[.str 0 0, .str l c], .tup [.str (Nat.add (Nat.sub l 1) 0) (Nat.add 0 (Nat.mul (Nat.div c 256) 1)), .int .i64 0], []⟩
def x2 (l c : Nat) : Row := ⟨[.str 0 0, .str l c], .tup [.str (Nat.add (Nat.sub l 0) 0) (Nat.add 0 (Nat.mul (Nat.div c 1) 1)), .int .i64 0], []⟩
def t0_00 : N8 (List Row) := ⟨[],
  [],
  [],
  [],
  [],
  [],
  [],
  []⟩
def t0_01 : N8 (List Row) := ⟨[],
  [],
  [],
  [],
  [],
  [],
  [],
  []⟩
def t0_02 : N8 (List Row) := ⟨[],
  [],
  [],
  [x0 14 977135843019677487503658156258351],
  [x1 4 1684956463],
  [],
  [],
  []⟩
def t0_03 : N8 (List Row) := ⟨[x0 14 977137080959716772883933055382575],
  [],
  [],
  [],
  [],
  [x0 14 977138318899756058264207954506799],
  [x0 10 563832672303380643673135],
  []⟩
def t0_04 : N8 (List Row) := ⟨[],
  [],
  [],
  [x2 3 3158380],
  [x0 13 3816940494762275361022901449775],
  [],
  [],
  []⟩
def t0_05 : N8 (List Row) := ⟨[],
  [],
  [],
  [],
  [x2 3 3420524],
  [],
  [x1 4 858876975, x1 4 825388847],
  [x1 1 47]⟩
def t0_06 : N8 (List Row) := ⟨[],
  [],
  [],
  [],
  [],
  [],
  [],
  []⟩
def t0_07 : N8 (List Row) := ⟨[x2 3 3682671],
  [],
  [],
  [],
  [],
  [],
  [],
  []⟩
def t0_10 : N8 (List Row) := ⟨[],
  [],
  [x0 14 977136772683632771153493505307695],
  [x1 3 3304495],
  [],
  [x0 14 977136461989715576937869315372079],
  [],
  [x0 14 977138010623672056533768404431919]⟩
def t0_11 : N8 (List Row) := ⟨[],
  [pc 0 0 10 563832672304467135980079 9 2202471376189324749922],
  [x0 14 977137699929754862318144214496303],
  [],
  [x1 3 3566639],
  [],
  [],
  []⟩
def t0_12 : N8 (List Row) := ⟨[],
  [],
  [],
  [],
  [],
  [],
  [],
  []⟩
def t0_13 : N8 (List Row) := ⟨[],
  [],
  [],
  [],
  [],
  [],
  [],
  []⟩
def t0_14 : N8 (List Row) := ⟨[],
  [x2 1 97],
  [x2 1 98],
  [],
  [x2 1 100],
  [x2 1 101],
  [],
  []⟩
def t0_15 : N8 (List Row) := ⟨[],
  [],
  [pc 0 0 11 144341164109961136265325615 10 563832672304535688536428],
  [],
  [],
  [],
  [],
  [x0 14 977136153713631575207429765297199]⟩
def t0_16 : N8 (List Row) := ⟨[],
  [x1 4 875654191],
  [],
  [],
  [x0 14 977137391653670860587704664421423],
  [],
  [],
  []⟩
def t0_17 : N8 (List Row) := ⟨[x0 13 3816939285836455746393726743599],
  [x0 14 977138629593710145967979563545647],
  [],
  [],
  [],
  [x0 13 3816946539391373434168774980655],
  [],
  []⟩
def t0_20 : N8 (List Row) := ⟨[],
  [],
  [],
  [x1 4 942763823],
  [],
  [],
  [],
  []⟩
def t0_21 : N8 (List Row) := ⟨[],
  [],
  [],
  [],
  [],
  [],
  [],
  []⟩
def t0_22 : N8 (List Row) := ⟨[],
  [],
  [],
  [],
  [],
  [],
  [],
  []⟩
def t0_23 : N8 (List Row) := ⟨[],
  [],
  [],
  [],
  [],
  [],
  [],
  []⟩
def t0_24 : N8 (List Row) := ⟨[],
  [],
  [],
  [],
  [],
  [],
  [],
  []⟩
def t0_25 : N8 (List Row) := ⟨[],
  [x2 3 3354988, x2 3 3224175],
  [x0 13 3816942912632361334354960413743],
  [],
  [],
  [],
  [],
  []⟩
def t0_26 : N8 (List Row) := ⟨[],
  [],
  [],
  [],
  [x1 4 892431407, x2 2 12396],
  [],
  [],
  [x2 2 12908]⟩
def t0_27 : N8 (List Row) := ⟨[],
  [],
  [x2 2 13420],
  [],
  [],
  [x2 2 13932],
  [],
  []⟩
def t0_30 : N8 (List Row) := ⟨[x1 3 3238959, x0 14 977136463198622949808424780526639, x2 2 14444, x2 2 13935],
  [],
  [x1 2 25135],
  [x0 14 977136152504705755592800590591023],
  [],
  [x1 2 25647, x0 14 977137701138662235188699679650863],
  [],
  []⟩
def t0_31 : N8 (List Row) := ⟨[pc 0 0 20 275040073356223087138188937964025693655099599919 19 1074375286547746434133550538921975365840232812, x0 14 977137390444745040973075489715247],
  [x1 3 3501103, x1 3 3370799],
  [],
  [],
  [x0 13 3816938076910636131764552037423],
  [x0 14 977138628384784326353350388839471],
  [],
  []⟩
def t0_32 : N8 (List Row) := ⟨[],
  [x0 13 3816945330465553819539600274479],
  [x1 3 3763247],
  [],
  [],
  [],
  [],
  []⟩
def t0_33 : N8 (List Row) := ⟨[],
  [],
  [],
  [],
  [],
  [],
  [x1 7 32495402475416623],
  []⟩
def t0_34 : N8 (List Row) := ⟨[],
  [],
  [],
  [],
  [],
  [],
  [],
  []⟩
def t0_35 : N8 (List Row) := ⟨[],
  [],
  [],
  [],
  [],
  [x0 14 977135844228621753862361040516143],
  [x1 4 842100527],
  []⟩
def t0_36 : N8 (List Row) := ⟨[],
  [],
  [x0 14 977137082168661039242635939640367],
  [],
  [],
  [],
  [],
  [x0 14 977138320108700324622910838764591]⟩
def t0_37 : N8 (List Row) := ⟨[],
  [],
  [],
  [],
  [],
  [],
  [],
  []⟩
def t0_40 : N8 (List Row) := ⟨[],
  [],
  [],
  [],
  [],
  [],
  [],
  []⟩
def t0_41 : N8 (List Row) := ⟨[],
  [],
  [],
  [],
  [],
  [],
  [],
  []⟩
def t0_42 : N8 (List Row) := ⟨[],
  [],
  [],
  [],
  [x0 14 977136461989697130193795605820463],
  [x1 6 125780121056303],
  [],
  []⟩
def t0_43 : N8 (List Row) := ⟨[],
  [x0 14 977137699929736415574070504944687],
  [],
  [],
  [],
  [],
  [],
  []⟩
def t0_44 : N8 (List Row) := ⟨[],
  [],
  [],
  [],
  [],
  [x0 13 3816944121539734204910425568303],
  [x2 3 3289452],
  []⟩
def t0_45 : N8 (List Row) := ⟨[],
  [x2 3 3289455],
  [],
  [],
  [],
  [],
  [],
  []⟩
def t0_46 : N8 (List Row) := ⟨[],
  [],
  [],
  [],
  [],
  [],
  [],
  []⟩
def t0_47 : N8 (List Row) := ⟨[],
  [],
  [],
  [],
  [],
  [x1 3 3173423],
  [],
  []⟩
def t0_50 : N8 (List Row) := ⟨[x1 6 126866613363247],
  [],
  [],
  [],
  [],
  [],
  [x1 3 3435567],
  []⟩
def t0_51 : N8 (List Row) := ⟨[],
  [],
  [],
  [],
  [],
  [],
  [],
  [x1 3 3697711, x1 3 3567407]⟩
def t0_52 : N8 (List Row) := ⟨[],
  [],
  [],
  [],
  [],
  [],
  [],
  [x0 13 3816947748335639792871659238447]⟩
def t0_53 : N8 (List Row) := ⟨[],
  [],
  [],
  [],
  [],
  [],
  [],
  []⟩
def t0_54 : N8 (List Row) := ⟨[],
  [],
  [x1 4 808545327],
  [],
  [],
  [],
  [],
  []⟩
def t0_55 : N8 (List Row) := ⟨[],
  [],
  [],
  [],
  [],
  [],
  [],
  []⟩
def t0_56 : N8 (List Row) := ⟨[],
  [],
  [],
  [],
  [],
  [],
  [],
  []⟩
def t0_57 : N8 (List Row) := ⟨[],
  [],
  [],
  [],
  [],
  [],
  [],
  []⟩
def t0_60 : N8 (List Row) := ⟨[],
  [],
  [],
  [],
  [],
  [],
  [],
  []⟩
def t0_61 : N8 (List Row) := ⟨[],
  [],
  [],
  [],
  [],
  [],
  [],
  []⟩
def t0_62 : N8 (List Row) := ⟨[],
  [],
  [x0 14 977136152504687308848726881039407],
  [],
  [],
  [],
  [],
  [x0 14 977137390444726594229001780163631]⟩
def t0_63 : N8 (List Row) := ⟨[],
  [],
  [],
  [],
  [x0 14 977138628384765879609276679287855],
  [],
  [],
  [pc 0 0 20 275039900498108008717173528693971040431140596783 19 1074374611320734409051459096460824376684142956]⟩
def t0_64 : N8 (List Row) := ⟨[],
  [],
  [],
  [x2 3 3223916],
  [],
  [x1 4 825322543],
  [x0 13 3816939285854902490467436295215],
  []⟩
def t0_65 : N8 (List Row) := ⟨[],
  [],
  [],
  [],
  [x2 3 3486060],
  [],
  [],
  [x2 3 3486063]⟩
def t0_66 : N8 (List Row) := ⟨[],
  [],
  [],
  [],
  [x2 2 12652],
  [],
  [],
  [x1 4 892432175, x2 2 13164]⟩
def t0_67 : N8 (List Row) := ⟨[],
  [],
  [x2 2 13676, x2 2 13167],
  [],
  [x0 14 977135844228603307118287330964527],
  [x2 2 14188],
  [],
  [x1 2 24879, x0 12 31398681604702278249750688815]⟩
def t0_70 : N8 (List Row) := ⟨[x2 2 14700],
  [x0 14 977137082168642592498562230088751],
  [],
  [x1 3 3370031, x2 2 14703],
  [x0 14 977136771474725398282938040153135],
  [x1 2 25903],
  [x0 14 977138320108681877878837129212975],
  []⟩
def t0_71 : N8 (List Row) := ⟨[],
  [x0 14 977138009414764683663212939277359],
  [],
  [],
  [x1 3 3632175],
  [x0 13 3816941703688094975652076155951],
  [],
  []⟩
def t0_72 : N8 (List Row) := ⟨[],
  [],
  [],
  [],
  [],
  [x1 3 3764015],
  [],
  []⟩
def t0_73 : N8 (List Row) := ⟨[],
  [],
  [],
  [],
  [],
  [],
  [],
  []⟩
def t0_74 : N8 (List Row) := ⟨[],
  [],
  [],
  [],
  [],
  [],
  [],
  []⟩
def t0_75 : N8 (List Row) := ⟨[x1 4 842099759],
  [],
  [],
  [x2 3 6581861],
  [],
  [],
  [],
  []⟩
def t0_76 : N8 (List Row) := ⟨[],
  [],
  [],
  [],
  [],
  [],
  [],
  []⟩
def t0_77 : N8 (List Row) := ⟨[],
  [],
  [],
  [],
  [],
  [],
  [],
  []⟩
def tab0 : N8 (N8 (N8 (List Row))) := ⟨⟨t0_00, t0_01, t0_02, t0_03, t0_04, t0_05, t0_06, t0_07⟩, ⟨t0_10, t0_11, t0_12, t0_13, t0_14, t0_15, t0_16, t0_17⟩, ⟨t0_20, t0_21, t0_22, t0_23, t0_24, t0_25, t0_26, t0_27⟩, ⟨t0_30, t0_31, t0_32, t0_33, t0_34, t0_35, t0_36, t0_37⟩, ⟨t0_40, t0_41, t0_42, t0_43, t0_44, t0_45, t0_46, t0_47⟩, ⟨t0_50, t0_51, t0_52, t0_53, t0_54, t0_55, t0_56, t0_57⟩, ⟨t0_60, t0_61, t0_62, t0_63, t0_64, t0_65, t0_66, t0_67⟩, ⟨t0_70, t0_71, t0_72, t0_73, t0_74, t0_75, t0_76, t0_77⟩⟩
def tab1 : List Row := [
  ⟨[.int .i64 0, .int .i64 2], .str 2 0, []⟩,
  ⟨[.int .i64 0, .int .i64 3], .str 3 0, []⟩,
  ⟨[.int .i64 1, .int .i64 1], .str 1 1, []⟩,
  ⟨[.int .i64 45, .int .i64 2], .str 2 45, []⟩,
  ⟨[.int .i64 5, .int .i64 1], .str 1 5, []⟩,
  ⟨[.int .i64 53, .int .i64 2], .str 2 53, []⟩,
  ⟨[.int .i64 54, .int .i64 2], .str 2 54, []⟩,
  ⟨[.int .i64 6, .int .i64 1], .str 1 6, []⟩]
noncomputable def memoT (k : Nat) (a : List AV) : List Row := match k with
  | 0 => bkt tab0 a
  | 1 => tab1
  | _ => []
noncomputable abbrev memoTM := memoT
def lims : List (Nat × Nat) := [(1, 256), (2, 4096), (3, 1024)]
noncomputable def primT (k : Nat) : List AV → Heap → Option (AV × Heap) := match k with
  | 0 => liftTab (fun a => bkt tab0 a)
  | 1 => fun a h => orTwo (numberP lims a h) (liftTab (fun a => (fun _ => tab1) a) a h)
  | 3 => sortedStrT isItS 9
  | 4 => sortedInt isItI 3
  | 5 => repeatP
  | 6 => indexBits
  | _ => noPrim k
abbrev hook0 : Hook := ⟨lookN sumL, lookN extL, fun _ _ => [], noPrim⟩
noncomputable abbrev hookA : Hook := ⟨lookN sumLA, lookN extL, memoT, primT⟩
def sumLB : List (Nat × Nat) := [(132, 11), (301, 4), (456, 5), (93, 7), (244, 8), (52, 9), (454, 10), (201, 1), (297, 1), (126, 2)]
noncomputable def primTB (k : Nat) : List AV → Heap → Option (AV × Heap) := match k with
  | 7 => fun a h => mrowX a h trows
  | k => primT k
noncomputable abbrev hookB : Hook := ⟨lookN sumLB, lookN extL, memoT, primTB⟩
def sumLC : List (Nat × Nat) := [(32, 12), (132, 11), (301, 4), (456, 5), (93, 7), (244, 8), (52, 9), (454, 10), (201, 1), (297, 1), (126, 2)]
def sumLD : List (Nat × Nat) := [(13, 13), (14, 14), (32, 12), (132, 11), (301, 4), (456, 5), (93, 7), (244, 8), (52, 9), (454, 10), (201, 1), (297, 1), (126, 2)]
noncomputable def primTC (k : Nat) : List AV → Heap → Option (AV × Heap) := match k with
  | 8 => fun a h => mrowX a h crows
  | k => primTB k
noncomputable def primTD (k : Nat) : List AV → Heap → Option (AV × Heap) := match k with
  | 9 => fun a h => mrowX a h nrows
  | 10 => fun a h => mrowX a h drows
  | k => primTC k
noncomputable abbrev hookC : Hook := ⟨lookN sumLC, lookN extL, memoT, primTC⟩
noncomputable abbrev hookD : Hook := ⟨lookN sumLD, lookN extL, memoT, primTD⟩
def mxI : List AV → Nat → Nat
  | [], m => m
  | .int .i64 (.ofNat n) :: r, m => mxI r (cond (Nat.ble m n) n m)
  | _ :: r, m => mxI r m
def fpN (o : Option AObj) : Nat := match o with
  | some (.cells _ cs _ _) => mxI cs 0
  | _ => 0
noncomputable def selL : List (Nat × List MRow) := [(16, [cr0]), (52, [cr79]), (72, [cr1]), (82, [cr80]), (102, [cr2]), (132, [cr3]), (162, [cr4]), (192, [cr5]), (222, [cr6]), (252, [cr7]), (282, [cr8, cr11]), (312, [cr9, cr12, cr16]), (342, [cr10, cr13, cr17]), (372, [cr14, cr18, cr21]), (402, [cr15, cr19, cr22, cr25]), (432, [cr20, cr23, cr26, cr30]), (462, [cr24, cr27, cr31]), (492, [cr28, cr32, cr35]), (522, [cr29, cr33, cr36, cr39]), (552, [cr34, cr37, cr40, cr44]), (582, [cr38, cr41, cr45]), (612, [cr42, cr46, cr49]), (642, [cr43, cr47, cr50, cr53]), (672, [cr48, cr51, cr54, cr57]), (702, [cr52, cr55, cr58]), (732, [cr56, cr59, cr62]), (762, [cr60, cr63, cr66]), (792, [cr61, cr64, cr67, cr70]), (822, [cr65, cr68, cr71]), (852, [cr69, cr72, cr75]), (882, [cr73, cr76]), (912, [cr74, cr77]), (942, [cr78])]
noncomputable def selG (n : Nat) (l : List (Nat × List MRow)) : List MRow := List.rec (motive := fun _ => List MRow) crows (fun p _ r => cond (Nat.beq p.1 n) p.2 r) l
def sumLE : List (Nat × Nat) := [(521, 16), (32, 12), (132, 11), (301, 4), (456, 5), (93, 7), (244, 8), (52, 9), (454, 10), (201, 1), (297, 1), (126, 2)]
noncomputable def primTE (k : Nat) : List AV → Heap → Option (AV × Heap) := match k with
  | 12 => fun a h => orowP a h yrows
  | 8 => fun a h => mrowX a h (selG (fpN (h.get k1)) selL)
  | k => primTC k
noncomputable abbrev hookE : Hook := ⟨lookN sumLE, lookN extL, memoT, primTE⟩
def sumLT : List (Nat × Nat) := [(208, 17), (301, 4), (456, 5), (93, 7), (244, 8), (52, 9), (454, 10), (201, 1), (297, 1), (126, 2)]
noncomputable def primTT (k : Nat) : List AV → Heap → Option (AV × Heap) := match k with
  | 13 => cpP 389 12
  | k => primT k
noncomputable abbrev hookT : Hook := ⟨lookN sumLT, lookN extL, memoT, primTT⟩
noncomputable abbrev hookM : Hook := ⟨lookN sumLM, lookN extL, memoTM, primTD⟩
def key0 : Key := ⟨.d0, .d0, .d1, .d0, .d0⟩
def key4 : Key := ⟨.d0, .d0, .d0, .d0, .d4⟩
def keyI : Key := ⟨.d7, .d7, .d7, .d7, .d7⟩
def spaceZ : List Int := [0, 0, 0, 0, 0, 0, 0, 0, 0, 1, 1, 1, 1, 1, 0, 0, 0, 0, 0, 0, 0, 0, 0, 0, 0, 0, 0, 0, 0, 0, 0, 0, 1, 0, 0, 0, 0, 0, 0, 0, 0, 0, 0, 0, 0, 0, 0, 0, 0, 0, 0, 0, 0, 0, 0, 0, 0, 0, 0, 0, 0, 0, 0, 0, 0, 0, 0, 0, 0, 0, 0, 0, 0, 0, 0, 0, 0, 0, 0, 0, 0, 0, 0, 0, 0, 0, 0, 0, 0, 0, 0, 0, 0, 0, 0, 0, 0, 0, 0, 0, 0, 0, 0, 0, 0, 0, 0, 0, 0, 0, 0, 0, 0, 0, 0, 0, 0, 0, 0, 0, 0, 0, 0, 0, 0, 0, 0, 0, 0, 0, 0, 0, 0, 0, 0, 0, 0, 0, 0, 0, 0, 0, 0, 0, 0, 0, 0, 0, 0, 0, 0, 0, 0, 0, 0, 0, 0, 0, 0, 0, 0, 0, 0, 0, 0, 0, 0, 0, 0, 0, 0, 0, 0, 0, 0, 0, 0, 0, 0, 0, 0, 0, 0, 0, 0, 0, 0, 0, 0, 0, 0, 0, 0, 0, 0, 0, 0, 0, 0, 0, 0, 0, 0, 0, 0, 0, 0, 0, 0, 0, 0, 0, 0, 0, 0, 0, 0, 0, 0, 0, 0, 0, 0, 0, 0, 0, 0, 0, 0, 0, 0, 0, 0, 0, 0, 0, 0, 0, 0, 0, 0, 0, 0, 0, 0, 0, 0, 0, 0, 0, 0, 0, 0, 0, 0, 0]
def keyTw : Key := ⟨.d0, .d0, .d0, .d0, .d5⟩
def laidL : List (Nat × AObj) := [(1, .fixed 0 (spaceZ.map fun z => AV.int .u8 z))]
def tot (_ : Nat) : Nat := 256
abbrev QT (l : List MRow) : Prop := @rowsX hookT Tryz.prog laidL 132 keyTw 500000 l = true
abbrev QC (l : List MRow) : Prop := @rowsX hookB Tryz.prog laidL 32 keyTw 500000 l = true
abbrev QN (l : List MRow) : Prop := @rowsX hookC Tryz.prog laidL 13 keyTw 500000 l = true
abbrev QD (l : List MRow) : Prop := @rowsX hookE Tryz.prog laidL 14 keyTw 500000 l = true
end Go.Proofs.YtdkbfimccddikaaGreatDoor
