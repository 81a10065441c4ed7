/- Rows of tables of answers: runs by the evaluator, in the kernel. No conditions. -/
import Derived.Test.YtdkbfimccddikaaGreatDoorTmH
namespace Go.Proofs.YtdkbfimccddikaaGreatDoor
open Go.VM
set_option maxRecDepth 1000000 in
theorem m0_0 : @rowRun hook0 Tryz.prog laidL 301 key0 ⟨[.str 0 0, .str 1 47], .tup [.str 0 0, .int .i64 0], []⟩ = true := by decide +kernel
set_option maxRecDepth 1000000 in
theorem m0_1 : @rowRun hook0 Tryz.prog laidL 301 key0 ⟨[.str 0 0, .str 6 126866613363247], .tup [.str 5 495572708450, .int .i64 0], []⟩ = true := by decide +kernel
set_option maxRecDepth 1000000 in
theorem m0_2 : @rowRun hook0 Tryz.prog laidL 301 key0 ⟨[.str 0 0, .str 10 563832672304467135980079], .tup [.str 9 2202471376189324749922, .int .i64 0], []⟩ = true := by decide +kernel
set_option maxRecDepth 1000000 in
theorem m0_3 : @rowRun hook0 Tryz.prog laidL 301 key0 ⟨[.str 0 0, .str 2 25647], .tup [.str 1 100, .int .i64 0], []⟩ = true := by decide +kernel
set_option maxRecDepth 1000000 in
theorem m0_4 : @rowRun hook0 Tryz.prog laidL 301 key0 ⟨[.str 0 0, .str 2 25903], .tup [.str 1 101, .int .i64 0], []⟩ = true := by decide +kernel
set_option maxRecDepth 1000000 in
theorem m0_5 : @rowRun hook0 Tryz.prog laidL 301 key0 ⟨[.str 0 0, .str 2 26159], .tup [.str 1 102, .int .i64 0], []⟩ = true := by decide +kernel
set_option maxRecDepth 1000000 in
theorem m0_6 : @rowRun hook0 Tryz.prog laidL 301 key0 ⟨[.str 0 0, .str 2 26415], .tup [.str 1 103, .int .i64 0], []⟩ = true := by decide +kernel
set_option maxRecDepth 1000000 in
theorem m0_7 : @rowRun hook0 Tryz.prog laidL 301 key0 ⟨[.str 0 0, .str 7 32495402475416623], .tup [.str 6 126935165919596, .int .i64 0], []⟩ = true := by decide +kernel
set_option maxRecDepth 1000000 in
theorem m0_8 : @rowRun hook0 Tryz.prog laidL 301 key0 ⟨[.str 0 0, .str 20 275040073356223087138188937964025693655099599919], .tup [.str 19 1074375286547746434133550538921975365840232812, .int .i64 0], []⟩ = true := by decide +kernel
set_option maxRecDepth 1000000 in
theorem m0_9 : @rowRun hook0 Tryz.prog laidL 301 key0 ⟨[.str 0 0, .str 20 275039900498108008717173528693971040431140596783], .tup [.str 19 1074374611320734409051459096460824376684142956, .int .i64 0], []⟩ = true := by decide +kernel
set_option maxRecDepth 1000000 in
theorem m0_10 : @rowRun hook0 Tryz.prog laidL 301 key0 ⟨[.str 0 0, .str 11 144341164109961136265325615], .tup [.str 10 563832672304535688536428, .int .i64 0], []⟩ = true := by decide +kernel
set_option maxRecDepth 1000000 in
theorem m0_11 : @rowRun hook0 Tryz.prog laidL 301 key0 ⟨[.str 0 0, .str 4 842100527], .tup [.str 3 3289455, .int .i64 0], []⟩ = true := by decide +kernel
set_option maxRecDepth 1000000 in
theorem m0_12 : @rowRun hook0 Tryz.prog laidL 301 key0 ⟨[.str 0 0, .str 3 3370799], .tup [.str 2 13167, .int .i64 0], []⟩ = true := by decide +kernel
set_option maxRecDepth 1000000 in
theorem m0_13 : @rowRun hook0 Tryz.prog laidL 301 key0 ⟨[.str 0 0, .str 3 3567407], .tup [.str 2 13935, .int .i64 0], []⟩ = true := by decide +kernel
set_option maxRecDepth 1000000 in
theorem m0_14 : @rowRun hook0 Tryz.prog laidL 301 key0 ⟨[.str 0 0, .str 3 3764015], .tup [.str 2 14703, .int .i64 0], []⟩ = true := by decide +kernel
set_option maxRecDepth 1000000 in
theorem m0_15 : @rowRun hook0 Tryz.prog laidL 301 key0 ⟨[.str 0 0, .str 6 125780121056303], .tup [.str 5 491328597876, .int .i64 0], []⟩ = true := by decide +kernel
set_option maxRecDepth 1000000 in
theorem m0_16 : @rowRun hook0 Tryz.prog laidL 301 key0 ⟨[.str 0 0, .str 10 563832672303380643673135], .tup [.str 9 2202471376185080639348, .int .i64 0], []⟩ = true := by decide +kernel
set_option maxRecDepth 1000000 in
theorem m0_17 : @rowRun hook0 Tryz.prog laidL 301 key0 ⟨[.str 0 0, .str 12 31398681604702278249750688815], .tup [.str 11 122651100018368274413088628, .int .i64 0], []⟩ = true := by decide +kernel
set_option maxRecDepth 1000000 in
theorem m0_18 : @rowRun hook0 Tryz.prog laidL 301 key0 ⟨[.str 0 0, .str 13 3816938076910636131764552037423], .tup [.str 12 14909914362932172389705281396, .int .i64 0], []⟩ = true := by decide +kernel
set_option maxRecDepth 1000000 in
theorem m0_19 : @rowRun hook0 Tryz.prog laidL 301 key0 ⟨[.str 0 0, .str 14 977135843019677487503658156258351], .tup [.str 13 3816936886795615185561164672884, .int .i64 0], []⟩ = true := by decide +kernel
set_option maxRecDepth 1000000 in
theorem m0_20 : @rowRun hook0 Tryz.prog laidL 301 key0 ⟨[.str 0 0, .str 13 3816939285836455746393726743599], .tup [.str 12 14909919085298655259350495092, .int .i64 0], []⟩ = true := by decide +kernel
set_option maxRecDepth 1000000 in
theorem m0_21 : @rowRun hook0 Tryz.prog laidL 301 key0 ⟨[.str 0 0, .str 13 3816940494762275361022901449775], .tup [.str 12 14909923807665138128995708788, .int .i64 0], []⟩ = true := by decide +kernel
set_option maxRecDepth 1000000 in
theorem m0_22 : @rowRun hook0 Tryz.prog laidL 301 key0 ⟨[.str 0 0, .str 13 3816941703688094975652076155951], .tup [.str 12 14909928530031620998640922484, .int .i64 0], []⟩ = true := by decide +kernel
set_option maxRecDepth 1000000 in
theorem m0_23 : @rowRun hook0 Tryz.prog laidL 301 key0 ⟨[.str 0 0, .str 13 3816944121539734204910425568303], .tup [.str 12 14909937974764586737931349876, .int .i64 0], []⟩ = true := by decide +kernel
set_option maxRecDepth 1000000 in
theorem m0_24 : @rowRun hook0 Tryz.prog laidL 301 key0 ⟨[.str 0 0, .str 13 3816946539391373434168774980655], .tup [.str 12 14909947419497552477221777268, .int .i64 0], []⟩ = true := by decide +kernel
set_option maxRecDepth 1000000 in
theorem m0_25 : @rowRun hook0 Tryz.prog laidL 301 key0 ⟨[.str 0 0, .str 14 977135843019695934247731865809967], .tup [.str 13 3816936886795687243155202600820, .int .i64 0], []⟩ = true := by decide +kernel
set_option maxRecDepth 1000000 in
theorem m0_26 : @rowRun hook0 Tryz.prog laidL 301 key0 ⟨[.str 0 0, .str 14 977136152504705755592800590591023], .tup [.str 13 3816938095721506857784377306996, .int .i64 0], []⟩ = true := by decide +kernel
set_option maxRecDepth 1000000 in
theorem m0_27 : @rowRun hook0 Tryz.prog laidL 301 key0 ⟨[.str 0 0, .str 13 3816939285854902490467436295215], .tup [.str 12 14909919085370712853388423028, .int .i64 0], []⟩ = true := by decide +kernel
set_option maxRecDepth 1000000 in
theorem m0_28 : @rowRun hook0 Tryz.prog laidL 301 key0 ⟨[.str 0 0, .str 13 3816942912632361334354960413743], .tup [.str 12 14909933252470161462324064116, .int .i64 0], []⟩ = true := by decide +kernel
set_option maxRecDepth 1000000 in
theorem m0_29 : @rowRun hook0 Tryz.prog laidL 301 key0 ⟨[.str 0 0, .str 13 3816944121558180948984135119919], .tup [.str 12 14909937974836644331969277812, .int .i64 0], []⟩ = true := by decide +kernel
set_option maxRecDepth 1000000 in
theorem m0_30 : @rowRun hook0 Tryz.prog laidL 301 key0 ⟨[.str 0 0, .str 13 3816945330484000563613309826095], .tup [.str 12 14909942697203127201614491508, .int .i64 0], []⟩ = true := by decide +kernel
set_option maxRecDepth 1000000 in
theorem m0_31 : @rowRun hook0 Tryz.prog laidL 301 key0 ⟨[.str 0 0, .str 13 3816947748335639792871659238447], .tup [.str 12 14909952141936092940904918900, .int .i64 0], []⟩ = true := by decide +kernel
set_option maxRecDepth 1000000 in
theorem m0_32 : @rowRun hook0 Tryz.prog laidL 301 key0 ⟨[.str 0 0, .str 1 100], .tup [.str 1 100, .int .i64 0], []⟩ = true := by decide +kernel
set_option maxRecDepth 1000000 in
theorem m0_33 : @rowRun hook0 Tryz.prog laidL 301 key0 ⟨[.str 0 0, .str 1 101], .tup [.str 1 101, .int .i64 0], []⟩ = true := by decide +kernel
set_option maxRecDepth 1000000 in
theorem m0_34 : @rowRun hook0 Tryz.prog laidL 301 key0 ⟨[.str 0 0, .str 1 102], .tup [.str 1 102, .int .i64 0], []⟩ = true := by decide +kernel
set_option maxRecDepth 1000000 in
theorem m0_35 : @rowRun hook0 Tryz.prog laidL 301 key0 ⟨[.str 0 0, .str 1 103], .tup [.str 1 103, .int .i64 0], []⟩ = true := by decide +kernel
set_option maxRecDepth 1000000 in
theorem m0_36 : @rowRun hook0 Tryz.prog laidL 301 key0 ⟨[.str 0 0, .str 3 3289455], .tup [.str 3 3289455, .int .i64 0], []⟩ = true := by decide +kernel
set_option maxRecDepth 1000000 in
theorem m0_37 : @rowRun hook0 Tryz.prog laidL 301 key0 ⟨[.str 0 0, .str 2 13167], .tup [.str 2 13167, .int .i64 0], []⟩ = true := by decide +kernel
set_option maxRecDepth 1000000 in
theorem m0_38 : @rowRun hook0 Tryz.prog laidL 301 key0 ⟨[.str 0 0, .str 2 13935], .tup [.str 2 13935, .int .i64 0], []⟩ = true := by decide +kernel
set_option maxRecDepth 1000000 in
theorem m0_39 : @rowRun hook0 Tryz.prog laidL 301 key0 ⟨[.str 0 0, .str 2 14703], .tup [.str 2 14703, .int .i64 0], []⟩ = true := by decide +kernel
set_option maxRecDepth 100000 in
theorem tab0_ok (_ : List AV) : ∀ p ∈ tab0, @rowRun hook0 Tryz.prog laidL 301 key0 p = true := (List.forall_mem_cons.2 ⟨m0_0, (List.forall_mem_cons.2 ⟨m0_1, (List.forall_mem_cons.2 ⟨m0_2, (List.forall_mem_cons.2 ⟨m0_3, (List.forall_mem_cons.2 ⟨m0_4, (List.forall_mem_cons.2 ⟨m0_5, (List.forall_mem_cons.2 ⟨m0_6, (List.forall_mem_cons.2 ⟨m0_7, (List.forall_mem_cons.2 ⟨m0_8, (List.forall_mem_cons.2 ⟨m0_9, (List.forall_mem_cons.2 ⟨m0_10, (List.forall_mem_cons.2 ⟨m0_11, (List.forall_mem_cons.2 ⟨m0_12, (List.forall_mem_cons.2 ⟨m0_13, (List.forall_mem_cons.2 ⟨m0_14, (List.forall_mem_cons.2 ⟨m0_15, (List.forall_mem_cons.2 ⟨m0_16, (List.forall_mem_cons.2 ⟨m0_17, (List.forall_mem_cons.2 ⟨m0_18, (List.forall_mem_cons.2 ⟨m0_19, (List.forall_mem_cons.2 ⟨m0_20, (List.forall_mem_cons.2 ⟨m0_21, (List.forall_mem_cons.2 ⟨m0_22, (List.forall_mem_cons.2 ⟨m0_23, (List.forall_mem_cons.2 ⟨m0_24, (List.forall_mem_cons.2 ⟨m0_25, (List.forall_mem_cons.2 ⟨m0_26, (List.forall_mem_cons.2 ⟨m0_27, (List.forall_mem_cons.2 ⟨m0_28, (List.forall_mem_cons.2 ⟨m0_29, (List.forall_mem_cons.2 ⟨m0_30, (List.forall_mem_cons.2 ⟨m0_31, (List.forall_mem_cons.2 ⟨m0_32, (List.forall_mem_cons.2 ⟨m0_33, (List.forall_mem_cons.2 ⟨m0_34, (List.forall_mem_cons.2 ⟨m0_35, (List.forall_mem_cons.2 ⟨m0_36, (List.forall_mem_cons.2 ⟨m0_37, (List.forall_mem_cons.2 ⟨m0_38, (List.forall_mem_cons.2 ⟨m0_39, (by intro p h; cases h)⟩)⟩)⟩)⟩)⟩)⟩)⟩)⟩)⟩)⟩)⟩)⟩)⟩)⟩)⟩)⟩)⟩)⟩)⟩)⟩)⟩)⟩)⟩)⟩)⟩)⟩)⟩)⟩)⟩)⟩)⟩)⟩)⟩)⟩)⟩)⟩)⟩)⟩)⟩)⟩)
set_option maxRecDepth 1000000 in
theorem m1_0 : @rowRun hook0 Tryz.prog laidL 456 key0 ⟨[.int .i64 0, .int .i64 2], .str 2 0, []⟩ = true := by decide +kernel
set_option maxRecDepth 1000000 in
theorem m1_1 : @rowRun hook0 Tryz.prog laidL 456 key0 ⟨[.int .i64 0, .int .i64 3], .str 3 0, []⟩ = true := by decide +kernel
set_option maxRecDepth 1000000 in
theorem m1_2 : @rowRun hook0 Tryz.prog laidL 456 key0 ⟨[.int .i64 1, .int .i64 1], .str 1 1, []⟩ = true := by decide +kernel
set_option maxRecDepth 1000000 in
theorem m1_3 : @rowRun hook0 Tryz.prog laidL 456 key0 ⟨[.int .i64 45, .int .i64 2], .str 2 45, []⟩ = true := by decide +kernel
set_option maxRecDepth 1000000 in
theorem m1_4 : @rowRun hook0 Tryz.prog laidL 456 key0 ⟨[.int .i64 5, .int .i64 1], .str 1 5, []⟩ = true := by decide +kernel
set_option maxRecDepth 1000000 in
theorem m1_5 : @rowRun hook0 Tryz.prog laidL 456 key0 ⟨[.int .i64 53, .int .i64 2], .str 2 53, []⟩ = true := by decide +kernel
set_option maxRecDepth 1000000 in
theorem m1_6 : @rowRun hook0 Tryz.prog laidL 456 key0 ⟨[.int .i64 54, .int .i64 2], .str 2 54, []⟩ = true := by decide +kernel
set_option maxRecDepth 1000000 in
theorem m1_7 : @rowRun hook0 Tryz.prog laidL 456 key0 ⟨[.int .i64 6, .int .i64 1], .str 1 6, []⟩ = true := by decide +kernel
set_option maxRecDepth 100000 in
theorem tab1_ok (_ : List AV) : ∀ p ∈ tab1, @rowRun hook0 Tryz.prog laidL 456 key0 p = true := (List.forall_mem_cons.2 ⟨m1_0, (List.forall_mem_cons.2 ⟨m1_1, (List.forall_mem_cons.2 ⟨m1_2, (List.forall_mem_cons.2 ⟨m1_3, (List.forall_mem_cons.2 ⟨m1_4, (List.forall_mem_cons.2 ⟨m1_5, (List.forall_mem_cons.2 ⟨m1_6, (List.forall_mem_cons.2 ⟨m1_7, (by intro p h; cases h)⟩)⟩)⟩)⟩)⟩)⟩)⟩)⟩)
end Go.Proofs.YtdkbfimccddikaaGreatDoor
