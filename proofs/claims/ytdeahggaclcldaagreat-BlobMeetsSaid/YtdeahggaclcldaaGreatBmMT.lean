/- Rows of tables of answers: runs by the evaluator, in the kernel. No conditions. -/
import Derived.Test.YtdeahggaclcldaaGreatBmH
namespace Go.Proofs.YtdeahggaclcldaaGreat
open Go.VM
set_option maxRecDepth 1000000 in
theorem m0_0 : @rowRun hook0 Tryz.prog laidL 87 key0 ⟨[.str 0 0, .str 10 563832672304467135980079], .tup [.str 9 2202471376189324749922, .int .i64 0], []⟩ = true := by decide +kernel
set_option maxRecDepth 1000000 in
theorem m0_1 : @rowRun hook0 Tryz.prog laidL 87 key0 ⟨[.str 0 0, .str 19 1074373933388454429472214485819975120485900847], .tup [.str 18 4196773177298650115125837835234277814398050, .int .i64 0], []⟩ = true := by decide +kernel
set_option maxRecDepth 1000000 in
theorem m0_2 : @rowRun hook0 Tryz.prog laidL 87 key0 ⟨[.str 0 0, .str 6 126866613363247], .tup [.str 5 495572708450, .int .i64 0], []⟩ = true := by decide +kernel
set_option maxRecDepth 1000000 in
theorem m0_3 : @rowRun hook0 Tryz.prog laidL 87 key0 ⟨[.str 0 0, .str 19 1096675006937433272852141592026009708402598447], .tup [.str 18 4283886745849348722078678093851600423447650, .int .i64 0], []⟩ = true := by decide +kernel
set_option maxRecDepth 1000000 in
theorem m0_4 : @rowRun hook0 Tryz.prog laidL 87 key0 ⟨[.str 0 0, .str 17 16733943026214261178263719572760966226479], .tup [.str 16 65366964946149457727592654581097524322, .int .i64 0], []⟩ = true := by decide +kernel
set_option maxRecDepth 1000000 in
theorem m0_5 : @rowRun hook0 Tryz.prog laidL 87 key0 ⟨[.str 0 0, .str 19 1096672971863430523029789057884384843373765167], .tup [.str 18 4283878796341525480585113507360878294428770, .int .i64 0], []⟩ = true := by decide +kernel
set_option maxRecDepth 1000000 in
theorem m0_6 : @rowRun hook0 Tryz.prog laidL 87 key0 ⟨[.str 0 0, .str 19 1096673988748890072726279032115815294438236719], .tup [.str 18 4283882768550351846587027469202403493899362, .int .i64 0], []⟩ = true := by decide +kernel
set_option maxRecDepth 1000000 in
theorem m0_7 : @rowRun hook0 Tryz.prog laidL 87 key0 ⟨[.str 0 0, .str 19 1096675353855698030307064549037193046872842799], .tup [.str 18 4283888100998820430886970894676535339347042, .int .i64 0], []⟩ = true := by decide +kernel
set_option maxRecDepth 1000000 in
theorem m0_8 : @rowRun hook0 Tryz.prog laidL 87 key0 ⟨[.str 0 0, .str 19 1074374261738902649710605873753361346896618031], .tup [.str 18 4196774459917588475432054194349067761314914, .int .i64 0], []⟩ = true := by decide +kernel
set_option maxRecDepth 1000000 in
theorem m0_9 : @rowRun hook0 Tryz.prog laidL 87 key0 ⟨[.str 0 0, .str 17 16393660659293322714800344965329198015023], .tup [.str 16 64037736950364541854688847520817179746, .int .i64 0], []⟩ = true := by decide +kernel
set_option maxRecDepth 1000000 in
theorem m0_10 : @rowRun hook0 Tryz.prog laidL 87 key0 ⟨[.str 0 0, .str 19 1074372226664899899888253339611736481867784751], .tup [.str 18 4196766510409765233938489607858345632296034, .int .i64 0], []⟩ = true := by decide +kernel
set_option maxRecDepth 1000000 in
theorem m0_11 : @rowRun hook0 Tryz.prog laidL 87 key0 ⟨[.str 0 0, .str 19 1074373243550359449584743313843166932932256303], .tup [.str 18 4196770482618591599940403569699870831766626, .int .i64 0], []⟩ = true := by decide +kernel
set_option maxRecDepth 1000000 in
theorem m0_12 : @rowRun hook0 Tryz.prog laidL 87 key0 ⟨[.str 0 0, .str 19 1074374608657167407165528830764544685366862383], .tup [.str 18 4196775815067060184240346995174002677214306, .int .i64 0], []⟩ = true := by decide +kernel
set_option maxRecDepth 100000 in
theorem tab0_ok (_ : List AV) : ∀ p ∈ tab0, @rowRun hook0 Tryz.prog laidL 87 key0 p = true := (List.forall_mem_cons.2 ⟨m0_0, (List.forall_mem_cons.2 ⟨m0_1, (List.forall_mem_cons.2 ⟨m0_2, (List.forall_mem_cons.2 ⟨m0_3, (List.forall_mem_cons.2 ⟨m0_4, (List.forall_mem_cons.2 ⟨m0_5, (List.forall_mem_cons.2 ⟨m0_6, (List.forall_mem_cons.2 ⟨m0_7, (List.forall_mem_cons.2 ⟨m0_8, (List.forall_mem_cons.2 ⟨m0_9, (List.forall_mem_cons.2 ⟨m0_10, (List.forall_mem_cons.2 ⟨m0_11, (List.forall_mem_cons.2 ⟨m0_12, (by intro p h; cases h)⟩)⟩)⟩)⟩)⟩)⟩)⟩)⟩)⟩)⟩)⟩)⟩)⟩)
set_option maxRecDepth 1000000 in
theorem m1_0 : @rowRun hook0 Tryz.prog laidL 125 key0 ⟨[.int .i64 0, .int .i64 2], .str 2 0, []⟩ = true := by decide +kernel
set_option maxRecDepth 1000000 in
theorem m1_1 : @rowRun hook0 Tryz.prog laidL 125 key0 ⟨[.int .i64 2, .int .i64 1], .str 1 2, []⟩ = true := by decide +kernel
set_option maxRecDepth 1000000 in
theorem m1_2 : @rowRun hook0 Tryz.prog laidL 125 key0 ⟨[.int .i64 11, .int .i64 3], .str 3 11, []⟩ = true := by decide +kernel
set_option maxRecDepth 1000000 in
theorem m1_3 : @rowRun hook0 Tryz.prog laidL 125 key0 ⟨[.int .i64 12, .int .i64 1], .str 1 12, []⟩ = true := by decide +kernel
set_option maxRecDepth 1000000 in
theorem m1_4 : @rowRun hook0 Tryz.prog laidL 125 key0 ⟨[.int .i64 47, .int .i64 2], .str 2 47, []⟩ = true := by decide +kernel
set_option maxRecDepth 1000000 in
theorem m1_5 : @rowRun hook0 Tryz.prog laidL 125 key0 ⟨[.int .i64 48, .int .i64 2], .str 2 48, []⟩ = true := by decide +kernel
set_option maxRecDepth 1000000 in
theorem m1_6 : @rowRun hook0 Tryz.prog laidL 125 key0 ⟨[.int .i64 0, .int .i64 3], .str 3 0, []⟩ = true := by decide +kernel
set_option maxRecDepth 1000000 in
theorem m1_7 : @rowRun hook0 Tryz.prog laidL 125 key0 ⟨[.int .i64 5, .int .i64 1], .str 1 5, []⟩ = true := by decide +kernel
set_option maxRecDepth 1000000 in
theorem m1_8 : @rowRun hook0 Tryz.prog laidL 125 key0 ⟨[.int .i64 1, .int .i64 1], .str 1 1, []⟩ = true := by decide +kernel
set_option maxRecDepth 1000000 in
theorem m1_9 : @rowRun hook0 Tryz.prog laidL 125 key0 ⟨[.int .i64 3, .int .i64 1], .str 1 3, []⟩ = true := by decide +kernel
set_option maxRecDepth 1000000 in
theorem m1_10 : @rowRun hook0 Tryz.prog laidL 125 key0 ⟨[.int .i64 10, .int .i64 1], .str 1 10, []⟩ = true := by decide +kernel
set_option maxRecDepth 1000000 in
theorem m1_11 : @rowRun hook0 Tryz.prog laidL 125 key0 ⟨[.int .i64 46, .int .i64 2], .str 2 46, []⟩ = true := by decide +kernel
set_option maxRecDepth 1000000 in
theorem m1_12 : @rowRun hook0 Tryz.prog laidL 125 key0 ⟨[.int .i64 5, .int .i64 3], .str 3 5, []⟩ = true := by decide +kernel
set_option maxRecDepth 1000000 in
theorem m1_13 : @rowRun hook0 Tryz.prog laidL 125 key0 ⟨[.int .i64 45, .int .i64 2], .str 2 45, []⟩ = true := by decide +kernel
set_option maxRecDepth 100000 in
theorem tab1_ok (_ : List AV) : ∀ p ∈ tab1, @rowRun hook0 Tryz.prog laidL 125 key0 p = true := (List.forall_mem_cons.2 ⟨m1_0, (List.forall_mem_cons.2 ⟨m1_1, (List.forall_mem_cons.2 ⟨m1_2, (List.forall_mem_cons.2 ⟨m1_3, (List.forall_mem_cons.2 ⟨m1_4, (List.forall_mem_cons.2 ⟨m1_5, (List.forall_mem_cons.2 ⟨m1_6, (List.forall_mem_cons.2 ⟨m1_7, (List.forall_mem_cons.2 ⟨m1_8, (List.forall_mem_cons.2 ⟨m1_9, (List.forall_mem_cons.2 ⟨m1_10, (List.forall_mem_cons.2 ⟨m1_11, (List.forall_mem_cons.2 ⟨m1_12, (List.forall_mem_cons.2 ⟨m1_13, (by intro p h; cases h)⟩)⟩)⟩)⟩)⟩)⟩)⟩)⟩)⟩)⟩)⟩)⟩)⟩)⟩)
end Go.Proofs.YtdeahggaclcldaaGreat
