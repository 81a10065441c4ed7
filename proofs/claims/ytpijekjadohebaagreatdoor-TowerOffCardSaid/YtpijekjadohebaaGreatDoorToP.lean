/- TowerOff answers true, and nothing that was there is turned: the contract, out of the evaluator's runs, and its lift to the row's form. Conditions: those of the given row (the listed variables read as listed). -/
import Derived.Test.YtpijekjadohebaaGreatDoorToRA
import Derived.Test.YtpijekjadohebaaGreatDoorToMT
import Derived.Test.YtpijekjadohebaaGreatDoorToTX0
import Derived.Test.YtpijekjadohebaaGreatDoorToCX0
import Derived.Test.YtpijekjadohebaaGreatDoorToNX0
import Derived.Test.YtpijekjadohebaaGreatDoorToDX0
import Derived.Test.YtpijekjadohebaaGreatDoorToDX1
import Derived.Test.YtpijekjadohebaaGreatDoorToBX0
import Derived.Test.YtpijekjadohebaaGreatDoorToRM0
import Derived.Test.YtpijekjadohebaaGreatDoorToRM1
import Derived.Test.YtpijekjadohebaaGreatDoorToRM2
import Derived.Test.YtpijekjadohebaaGreatDoorToRM3
import Derived.Test.YtpijekjadohebaaGreatDoorRows
import Derived.SevenTiedAt
import Derived.Stop.Joined
import Derived.OpenShut
namespace Go.Proofs.YtpijekjadohebaaGreatDoor
open Go.ChangeShapes Go.WideShapes Go.ChangeAt Go.RowKit Go.VM
theorem mixed : Tryz.prog.follows .mixedOrders = true := by kernel_rfl
theorem g64 : Tryz.prog.globals.size ≤ 64 := by decide +kernel
theorem row469 : Extern.findNext Tryz.f469 = none ∧ Extern.find Tryz.f469 = some Extern.BytealgIndexByte.indexByte := ⟨by kernel_rfl, by kernel_rfl⟩
theorem vm469 : vmRow 4 Tryz.f469 = some Extern.BytealgIndexByte.indexByte := rfl
theorem row250 : Extern.findNext Tryz.f250 = none ∧ Extern.find Tryz.f250 = some (Extern.BytealgMakeNoZero.makeNoZero Tryz.f250.params Tryz.f250.resultTypes) := ⟨by kernel_rfl, by kernel_rfl⟩
theorem vm250 : vmRow 5 Tryz.f250 = some (Extern.BytealgMakeNoZero.makeNoZero Tryz.f250.params Tryz.f250.resultTypes) := rfl
theorem row580 : Extern.findNext Tryz.f580 = none ∧ Extern.find Tryz.f580 = some Extern.MathFloatBits.float64bits := ⟨by kernel_rfl, by kernel_rfl⟩
theorem vm580 : vmRow 1 Tryz.f580 = some Extern.MathFloatBits.float64bits := rfl
theorem row559 : Extern.findNext Tryz.f559 = none ∧ Extern.find Tryz.f559 = some Extern.MathFloatBits.float64frombits := ⟨by kernel_rfl, by kernel_rfl⟩
theorem vm559 : vmRow 2 Tryz.f559 = some Extern.MathFloatBits.float64frombits := rfl
theorem row249 : Extern.findNext Tryz.f249 = none ∧ Extern.find Tryz.f249 = some Extern.AbiNoEscape.same := ⟨by kernel_rfl, by kernel_rfl⟩
theorem vm249 : vmRow 3 Tryz.f249 = some Extern.AbiNoEscape.same := rfl
theorem row596 : Extern.findNext Tryz.f596 = none ∧ Extern.find Tryz.f596 = some (Extern.MathFloor.toIntegral "math.archTrunc" .zero) := ⟨by kernel_rfl, by kernel_rfl⟩
theorem vm596 : vmRow 6 Tryz.f596 = some (Extern.MathFloor.toIntegral "math.archTrunc" .zero) := rfl
theorem row125 : Extern.findNext Tryz.f125 = none ∧ Extern.find Tryz.f125 = some Extern.MapsClone.clone := ⟨by kernel_rfl, by kernel_rfl⟩
theorem vm125 : vmRow 7 Tryz.f125 = some Extern.MapsClone.clone := rfl
theorem rows_ok (H : Hook) (hH : H.exts = lookN extL) : @RowsOk H Tryz.prog := by
  refine @rowsOk_of H _ extL (fun f => by show H.exts f = _; rw [hH]) fun f k hm fd hp impl hv => ?_
  simp only [extL, List.mem_cons, List.not_mem_nil, or_false, Prod.mk.injEq] at hm
  rcases hm with ⟨rfl, rfl⟩ | ⟨rfl, rfl⟩ | ⟨rfl, rfl⟩ | ⟨rfl, rfl⟩ | ⟨rfl, rfl⟩ | ⟨rfl, rfl⟩ | ⟨rfl, rfl⟩
  · rw [Tryz.func469] at hp; cases hp; rw [vm469] at hv; cases hv; exact row469
  · rw [Tryz.func250] at hp; cases hp; rw [vm250] at hv; cases hv; exact row250
  · rw [Tryz.func580] at hp; cases hp; rw [vm580] at hv; cases hv; exact row580
  · rw [Tryz.func559] at hp; cases hp; rw [vm559] at hv; cases hv; exact row559
  · rw [Tryz.func249] at hp; cases hp; rw [vm249] at hv; cases hv; exact row249
  · rw [Tryz.func596] at hp; cases hp; rw [vm596] at hv; cases hv; exact row596
  · rw [Tryz.func125] at hp; cases hp; rw [vm125] at hv; cases hv; exact row125
theorem body5 : ∃ c, bodyOf Tryz.prog 5 = some c := body_of Tryz.func5 (by kernel_rfl) (by kernel_rfl)
theorem body6 : ∃ c, bodyOf Tryz.prog 6 = some c := body_of Tryz.func6 (by kernel_rfl) (by kernel_rfl)
theorem body7 : ∃ c, bodyOf Tryz.prog 7 = some c := body_of Tryz.func7 (by kernel_rfl) (by kernel_rfl)
theorem body17 : ∃ c, bodyOf Tryz.prog 17 = some c := body_of Tryz.func17 (by kernel_rfl) (by kernel_rfl)
theorem body25 : ∃ c, bodyOf Tryz.prog 25 = some c := body_of Tryz.func25 (by kernel_rfl) (by kernel_rfl)
theorem body130 : ∃ c, bodyOf Tryz.prog 130 = some c := body_of Tryz.func130 (by kernel_rfl) (by kernel_rfl)
theorem body299 : ∃ c, bodyOf Tryz.prog 299 = some c := body_of Tryz.func299 (by kernel_rfl) (by kernel_rfl)
theorem body453 : ∃ c, bodyOf Tryz.prog 453 = some c := body_of Tryz.func453 (by kernel_rfl) (by kernel_rfl)
theorem body84 : ∃ c, bodyOf Tryz.prog 84 = some c := body_of Tryz.func84 (by kernel_rfl) (by kernel_rfl)
theorem body243 : ∃ c, bodyOf Tryz.prog 243 = some c := body_of Tryz.func243 (by kernel_rfl) (by kernel_rfl)
theorem body49 : ∃ c, bodyOf Tryz.prog 49 = some c := body_of Tryz.func49 (by kernel_rfl) (by kernel_rfl)
theorem body451 : ∃ c, bodyOf Tryz.prog 451 = some c := body_of Tryz.func451 (by kernel_rfl) (by kernel_rfl)
theorem body200 : ∃ c, bodyOf Tryz.prog 200 = some c := body_of Tryz.func200 (by kernel_rfl) (by kernel_rfl)
theorem body295 : ∃ c, bodyOf Tryz.prog 295 = some c := body_of Tryz.func295 (by kernel_rfl) (by kernel_rfl)
theorem body124 : ∃ c, bodyOf Tryz.prog 124 = some c := body_of Tryz.func124 (by kernel_rfl) (by kernel_rfl)
theorem gm_lt : 0 < Tryz.prog.globals.size := by decide +kernel
section
variable {b : Base} {W : World} {m : Int}
theorem sat_ix [Hook] (hm : b.w.cell? ⟨0, 0, none⟩ = some (.int .i64 m)) (hk : b.Keeps Tryz.prog laidL tot) : Sat Tryz.prog b 200 1 := fun s sub w _ ho hl => Any.strings_Index { Tryz.laysM143 with } s sub m w hl (cell_keeps hk hm gm_lt ho)
theorem sat_ixl [Hook] (hm : b.w.cell? ⟨0, 0, none⟩ = some (.int .i64 m)) (hk : b.Keeps Tryz.prog laidL tot) : Sat Tryz.prog b 295 1 := fun s sub w _ ho hl => Any.stringslite_Index { Tryz.laysM219 with } s sub m w hl (cell_keeps hk hm gm_lt ho)
theorem sat_co [Hook] (hm : b.w.cell? ⟨0, 0, none⟩ = some (.int .i64 m)) (hk : b.Keeps Tryz.prog laidL tot) : Sat Tryz.prog b 124 2 := fun s sub w _ ho hl => Any.strings_Contains { Tryz.laysM144 with } s sub m w hl (cell_keeps hk hm gm_lt ho)
theorem sum0 (hm : b.w.cell? ⟨0, 0, none⟩ = some (.int .i64 m)) (hk : b.Keeps Tryz.prog laidL tot) : @SumOk Tryz.prog hook0 b :=
  @sumOk_of hook0 _ _ (@sums_of hook0 _ b sumL rfl (List.forall_mem_cons.2 ⟨body200, (List.forall_mem_cons.2 ⟨body295, (List.forall_mem_cons.2 ⟨body124, (by intro q h; cases h)⟩)⟩)⟩) (List.forall_mem_cons.2 ⟨@sat_ix b m hook0 hm hk, (List.forall_mem_cons.2 ⟨@sat_ixl b m hook0 hm hk, (List.forall_mem_cons.2 ⟨@sat_co b m hook0 hm hk, (by intro q h; cases h)⟩)⟩)⟩))
theorem sat_m0a (hm : b.w.cell? ⟨0, 0, none⟩ = some (.int .i64 m)) (hk : b.Keeps Tryz.prog laidL tot) : @Sat hookA Tryz.prog b 299 4 := ⟨PrimOk.none (k := 0), fun a r hr => ⟨@row_ok hook0 _ laidL 299 key0 r (tab0_ok a r hr), fun _ _ _ hrel hs ho => @memo_of hook0 _ (rows_ok hook0 rfl) mixed g64 laidL tot 299 r key0 _ (sum0 (b := Base.at _ _) (cell_keeps hk hm gm_lt ho) (.of_at (hk.world hs ho))) (hk.world hs ho) _ _ hrel (tab0_ok a r hr)⟩⟩
theorem sat_m0b (hm : b.w.cell? ⟨0, 0, none⟩ = some (.int .i64 m)) (hk : b.Keeps Tryz.prog laidL tot) : @Sat hookM Tryz.prog b 299 4 := ⟨PrimOk.none (k := 0), fun a r hr => ⟨@row_ok hook0 _ laidL 299 key0 r (tab0_ok a r hr), fun _ _ _ hrel hs ho => @memo_of hook0 _ (rows_ok hook0 rfl) mixed g64 laidL tot 299 r key0 _ (sum0 (b := Base.at _ _) (cell_keeps hk hm gm_lt ho) (.of_at (hk.world hs ho))) (hk.world hs ho) _ _ hrel (tab0_ok a r hr)⟩⟩
theorem sat_m0c (hm : b.w.cell? ⟨0, 0, none⟩ = some (.int .i64 m)) (hk : b.Keeps Tryz.prog laidL tot) : @Sat hookC Tryz.prog b 299 4 := ⟨PrimOk.none (k := 0), fun a r hr => ⟨@row_ok hook0 _ laidL 299 key0 r (tab0_ok a r hr), fun _ _ _ hrel hs ho => @memo_of hook0 _ (rows_ok hook0 rfl) mixed g64 laidL tot 299 r key0 _ (sum0 (b := Base.at _ _) (cell_keeps hk hm gm_lt ho) (.of_at (hk.world hs ho))) (hk.world hs ho) _ _ hrel (tab0_ok a r hr)⟩⟩
theorem sat_m0d (hm : b.w.cell? ⟨0, 0, none⟩ = some (.int .i64 m)) (hk : b.Keeps Tryz.prog laidL tot) : @Sat hookD Tryz.prog b 299 4 := ⟨PrimOk.none (k := 0), fun a r hr => ⟨@row_ok hook0 _ laidL 299 key0 r (tab0_ok a r hr), fun _ _ _ hrel hs ho => @memo_of hook0 _ (rows_ok hook0 rfl) mixed g64 laidL tot 299 r key0 _ (sum0 (b := Base.at _ _) (cell_keeps hk hm gm_lt ho) (.of_at (hk.world hs ho))) (hk.world hs ho) _ _ hrel (tab0_ok a r hr)⟩⟩
theorem sat_m0e (hm : b.w.cell? ⟨0, 0, none⟩ = some (.int .i64 m)) (hk : b.Keeps Tryz.prog laidL tot) : @Sat hookB Tryz.prog b 299 4 := ⟨PrimOk.none (k := 0), fun a r hr => ⟨@row_ok hook0 _ laidL 299 key0 r (tab0_ok a r hr), fun _ _ _ hrel hs ho => @memo_of hook0 _ (rows_ok hook0 rfl) mixed g64 laidL tot 299 r key0 _ (sum0 (b := Base.at _ _) (cell_keeps hk hm gm_lt ho) (.of_at (hk.world hs ho))) (hk.world hs ho) _ _ hrel (tab0_ok a r hr)⟩⟩
theorem sat_m1a (hm : b.w.cell? ⟨0, 0, none⟩ = some (.int .i64 m)) (hk : b.Keeps Tryz.prog laidL tot) : @Sat hookA Tryz.prog b 453 5 := ⟨PrimOk.none (k := 1), fun a r hr => ⟨@row_ok hook0 _ laidL 453 key0 r (tab1_ok a r hr), fun _ _ _ hrel hs ho => @memo_of hook0 _ (rows_ok hook0 rfl) mixed g64 laidL tot 453 r key0 _ (sum0 (b := Base.at _ _) (cell_keeps hk hm gm_lt ho) (.of_at (hk.world hs ho))) (hk.world hs ho) _ _ hrel (tab1_ok a r hr)⟩⟩
theorem sat_m1b (hm : b.w.cell? ⟨0, 0, none⟩ = some (.int .i64 m)) (hk : b.Keeps Tryz.prog laidL tot) : @Sat hookM Tryz.prog b 453 5 := ⟨PrimOk.none (k := 1), fun a r hr => ⟨@row_ok hook0 _ laidL 453 key0 r (tab1_ok a r hr), fun _ _ _ hrel hs ho => @memo_of hook0 _ (rows_ok hook0 rfl) mixed g64 laidL tot 453 r key0 _ (sum0 (b := Base.at _ _) (cell_keeps hk hm gm_lt ho) (.of_at (hk.world hs ho))) (hk.world hs ho) _ _ hrel (tab1_ok a r hr)⟩⟩
theorem sat_m1c (hm : b.w.cell? ⟨0, 0, none⟩ = some (.int .i64 m)) (hk : b.Keeps Tryz.prog laidL tot) : @Sat hookC Tryz.prog b 453 5 := ⟨PrimOk.none (k := 1), fun a r hr => ⟨@row_ok hook0 _ laidL 453 key0 r (tab1_ok a r hr), fun _ _ _ hrel hs ho => @memo_of hook0 _ (rows_ok hook0 rfl) mixed g64 laidL tot 453 r key0 _ (sum0 (b := Base.at _ _) (cell_keeps hk hm gm_lt ho) (.of_at (hk.world hs ho))) (hk.world hs ho) _ _ hrel (tab1_ok a r hr)⟩⟩
theorem sat_m1d (hm : b.w.cell? ⟨0, 0, none⟩ = some (.int .i64 m)) (hk : b.Keeps Tryz.prog laidL tot) : @Sat hookD Tryz.prog b 453 5 := ⟨PrimOk.none (k := 1), fun a r hr => ⟨@row_ok hook0 _ laidL 453 key0 r (tab1_ok a r hr), fun _ _ _ hrel hs ho => @memo_of hook0 _ (rows_ok hook0 rfl) mixed g64 laidL tot 453 r key0 _ (sum0 (b := Base.at _ _) (cell_keeps hk hm gm_lt ho) (.of_at (hk.world hs ho))) (hk.world hs ho) _ _ hrel (tab1_ok a r hr)⟩⟩
theorem sat_m1e (hm : b.w.cell? ⟨0, 0, none⟩ = some (.int .i64 m)) (hk : b.Keeps Tryz.prog laidL tot) : @Sat hookB Tryz.prog b 453 5 := ⟨PrimOk.none (k := 1), fun a r hr => ⟨@row_ok hook0 _ laidL 453 key0 r (tab1_ok a r hr), fun _ _ _ hrel hs ho => @memo_of hook0 _ (rows_ok hook0 rfl) mixed g64 laidL tot 453 r key0 _ (sum0 (b := Base.at _ _) (cell_keeps hk hm gm_lt ho) (.of_at (hk.world hs ho))) (hk.world hs ho) _ _ hrel (tab1_ok a r hr)⟩⟩
theorem sumA (hm : b.w.cell? ⟨0, 0, none⟩ = some (.int .i64 m)) (hk : b.Keeps Tryz.prog laidL tot) : @SumOk Tryz.prog hookA b :=
  @sumOk_of hookA _ _ (@sums_of hookA _ b sumLA rfl (List.forall_mem_cons.2 ⟨body299, (List.forall_mem_cons.2 ⟨body453, (List.forall_mem_cons.2 ⟨body84, (List.forall_mem_cons.2 ⟨body243, (List.forall_mem_cons.2 ⟨body49, (List.forall_mem_cons.2 ⟨body451, (List.forall_mem_cons.2 ⟨body200, (List.forall_mem_cons.2 ⟨body295, (List.forall_mem_cons.2 ⟨body124, (by intro q h; cases h)⟩)⟩)⟩)⟩)⟩)⟩)⟩)⟩)⟩) (List.forall_mem_cons.2 ⟨sat_m0a hm hk, (List.forall_mem_cons.2 ⟨sat_m1a hm hk, (List.forall_mem_cons.2 ⟨(⟨@sortedStr_ok Tryz.prog b 84 9 isItS (sortedAtS b), fun _ r hr => by cases hr⟩ : @Sat hookA Tryz.prog b 84 7), (List.forall_mem_cons.2 ⟨(⟨@sortedInt_ok Tryz.prog b 243 3 isItI (sortedAtI b), fun _ r hr => by cases hr⟩ : @Sat hookA Tryz.prog b 243 8), (List.forall_mem_cons.2 ⟨(⟨@repeatP_ok Tryz.prog b 49 (repeat_at b), fun _ r hr => by cases hr⟩ : @Sat hookA Tryz.prog b 49 9), (List.forall_mem_cons.2 ⟨(⟨indexBits_ok (index_at b), fun _ r hr => by cases hr⟩ : @Sat hookA Tryz.prog b 451 10), (List.forall_mem_cons.2 ⟨@sat_ix b m hookA hm hk, (List.forall_mem_cons.2 ⟨@sat_ixl b m hookA hm hk, (List.forall_mem_cons.2 ⟨@sat_co b m hookA hm hk, (by intro q h; cases h)⟩)⟩)⟩)⟩)⟩)⟩)⟩)⟩)⟩))
set_option maxRecDepth 100000 in
theorem trows_ok : ∀ r ∈ trows, @RowRunsX hookA Tryz.prog laidL 130 keyTw r := fun r h => @rowsX_ok hookA _ _ _ _ _ _ tw0_ok r h
theorem sat_tB (hm : b.w.cell? ⟨0, 0, none⟩ = some (.int .i64 m)) (hk : b.Keeps Tryz.prog laidL tot) : @Sat hookB Tryz.prog b 130 11 := ⟨@mprimX_ok hookA Tryz.prog (rows_ok hookA rfl) mixed g64 laidL tot 130 keyTw trows trows_ok b hk (fun b' hk' hc => sumA (b := b') (hc 0 _ gm_lt hm) hk'), fun _ r hr => by cases hr⟩
theorem sat_tC (hm : b.w.cell? ⟨0, 0, none⟩ = some (.int .i64 m)) (hk : b.Keeps Tryz.prog laidL tot) : @Sat hookC Tryz.prog b 130 11 := ⟨@mprimX_ok hookA Tryz.prog (rows_ok hookA rfl) mixed g64 laidL tot 130 keyTw trows trows_ok b hk (fun b' hk' hc => sumA (b := b') (hc 0 _ gm_lt hm) hk'), fun _ r hr => by cases hr⟩
theorem sat_tD (hm : b.w.cell? ⟨0, 0, none⟩ = some (.int .i64 m)) (hk : b.Keeps Tryz.prog laidL tot) : @Sat hookD Tryz.prog b 130 11 := ⟨@mprimX_ok hookA Tryz.prog (rows_ok hookA rfl) mixed g64 laidL tot 130 keyTw trows trows_ok b hk (fun b' hk' hc => sumA (b := b') (hc 0 _ gm_lt hm) hk'), fun _ r hr => by cases hr⟩
theorem sat_tM (hm : b.w.cell? ⟨0, 0, none⟩ = some (.int .i64 m)) (hk : b.Keeps Tryz.prog laidL tot) : @Sat hookM Tryz.prog b 130 11 := ⟨@mprimX_ok hookA Tryz.prog (rows_ok hookA rfl) mixed g64 laidL tot 130 keyTw trows trows_ok b hk (fun b' hk' hc => sumA (b := b') (hc 0 _ gm_lt hm) hk'), fun _ r hr => by cases hr⟩
theorem sumB (hm : b.w.cell? ⟨0, 0, none⟩ = some (.int .i64 m)) (hk : b.Keeps Tryz.prog laidL tot) : @SumOk Tryz.prog hookB b :=
  @sumOk_of hookB _ _ (@sums_of hookB _ b sumLB rfl (List.forall_mem_cons.2 ⟨body130, (List.forall_mem_cons.2 ⟨body299, (List.forall_mem_cons.2 ⟨body453, (List.forall_mem_cons.2 ⟨body84, (List.forall_mem_cons.2 ⟨body243, (List.forall_mem_cons.2 ⟨body49, (List.forall_mem_cons.2 ⟨body451, (List.forall_mem_cons.2 ⟨body200, (List.forall_mem_cons.2 ⟨body295, (List.forall_mem_cons.2 ⟨body124, (by intro q h; cases h)⟩)⟩)⟩)⟩)⟩)⟩)⟩)⟩)⟩)⟩) (List.forall_mem_cons.2 ⟨sat_tB hm hk, (List.forall_mem_cons.2 ⟨sat_m0e hm hk, (List.forall_mem_cons.2 ⟨sat_m1e hm hk, (List.forall_mem_cons.2 ⟨(⟨@sortedStr_ok Tryz.prog b 84 9 isItS (sortedAtS b), fun _ r hr => by cases hr⟩ : @Sat hookB Tryz.prog b 84 7), (List.forall_mem_cons.2 ⟨(⟨@sortedInt_ok Tryz.prog b 243 3 isItI (sortedAtI b), fun _ r hr => by cases hr⟩ : @Sat hookB Tryz.prog b 243 8), (List.forall_mem_cons.2 ⟨(⟨@repeatP_ok Tryz.prog b 49 (repeat_at b), fun _ r hr => by cases hr⟩ : @Sat hookB Tryz.prog b 49 9), (List.forall_mem_cons.2 ⟨(⟨indexBits_ok (index_at b), fun _ r hr => by cases hr⟩ : @Sat hookB Tryz.prog b 451 10), (List.forall_mem_cons.2 ⟨@sat_ix b m hookB hm hk, (List.forall_mem_cons.2 ⟨@sat_ixl b m hookB hm hk, (List.forall_mem_cons.2 ⟨@sat_co b m hookB hm hk, (by intro q h; cases h)⟩)⟩)⟩)⟩)⟩)⟩)⟩)⟩)⟩)⟩))
set_option maxRecDepth 100000 in
theorem crows_ok : ∀ r ∈ crows, @RowRunsX hookB Tryz.prog laidL 25 keyTw r := fun r h => @rowsX_ok hookB _ _ _ _ _ _ cw0_ok r h
theorem sat_cC (hm : b.w.cell? ⟨0, 0, none⟩ = some (.int .i64 m)) (hk : b.Keeps Tryz.prog laidL tot) : @Sat hookC Tryz.prog b 25 12 := ⟨@mprimX_ok hookB Tryz.prog (rows_ok hookB rfl) mixed g64 laidL tot 25 keyTw crows crows_ok b hk (fun b' hk' hc => sumB (b := b') (hc 0 _ gm_lt hm) hk'), fun _ r hr => by cases hr⟩
theorem sat_cD (hm : b.w.cell? ⟨0, 0, none⟩ = some (.int .i64 m)) (hk : b.Keeps Tryz.prog laidL tot) : @Sat hookD Tryz.prog b 25 12 := ⟨@mprimX_ok hookB Tryz.prog (rows_ok hookB rfl) mixed g64 laidL tot 25 keyTw crows crows_ok b hk (fun b' hk' hc => sumB (b := b') (hc 0 _ gm_lt hm) hk'), fun _ r hr => by cases hr⟩
theorem sat_cM (hm : b.w.cell? ⟨0, 0, none⟩ = some (.int .i64 m)) (hk : b.Keeps Tryz.prog laidL tot) : @Sat hookM Tryz.prog b 25 12 := ⟨@mprimX_ok hookB Tryz.prog (rows_ok hookB rfl) mixed g64 laidL tot 25 keyTw crows crows_ok b hk (fun b' hk' hc => sumB (b := b') (hc 0 _ gm_lt hm) hk'), fun _ r hr => by cases hr⟩
theorem sumC (hm : b.w.cell? ⟨0, 0, none⟩ = some (.int .i64 m)) (hk : b.Keeps Tryz.prog laidL tot) : @SumOk Tryz.prog hookC b :=
  @sumOk_of hookC _ _ (@sums_of hookC _ b sumLC rfl (List.forall_mem_cons.2 ⟨body25, (List.forall_mem_cons.2 ⟨body130, (List.forall_mem_cons.2 ⟨body299, (List.forall_mem_cons.2 ⟨body453, (List.forall_mem_cons.2 ⟨body84, (List.forall_mem_cons.2 ⟨body243, (List.forall_mem_cons.2 ⟨body49, (List.forall_mem_cons.2 ⟨body451, (List.forall_mem_cons.2 ⟨body200, (List.forall_mem_cons.2 ⟨body295, (List.forall_mem_cons.2 ⟨body124, (by intro q h; cases h)⟩)⟩)⟩)⟩)⟩)⟩)⟩)⟩)⟩)⟩)⟩) (List.forall_mem_cons.2 ⟨sat_cC hm hk, (List.forall_mem_cons.2 ⟨sat_tC hm hk, (List.forall_mem_cons.2 ⟨sat_m0c hm hk, (List.forall_mem_cons.2 ⟨sat_m1c hm hk, (List.forall_mem_cons.2 ⟨(⟨@sortedStr_ok Tryz.prog b 84 9 isItS (sortedAtS b), fun _ r hr => by cases hr⟩ : @Sat hookC Tryz.prog b 84 7), (List.forall_mem_cons.2 ⟨(⟨@sortedInt_ok Tryz.prog b 243 3 isItI (sortedAtI b), fun _ r hr => by cases hr⟩ : @Sat hookC Tryz.prog b 243 8), (List.forall_mem_cons.2 ⟨(⟨@repeatP_ok Tryz.prog b 49 (repeat_at b), fun _ r hr => by cases hr⟩ : @Sat hookC Tryz.prog b 49 9), (List.forall_mem_cons.2 ⟨(⟨indexBits_ok (index_at b), fun _ r hr => by cases hr⟩ : @Sat hookC Tryz.prog b 451 10), (List.forall_mem_cons.2 ⟨@sat_ix b m hookC hm hk, (List.forall_mem_cons.2 ⟨@sat_ixl b m hookC hm hk, (List.forall_mem_cons.2 ⟨@sat_co b m hookC hm hk, (by intro q h; cases h)⟩)⟩)⟩)⟩)⟩)⟩)⟩)⟩)⟩)⟩)⟩))
set_option maxRecDepth 100000 in
theorem nrows_ok : ∀ r ∈ nrows, @RowRunsX hookC Tryz.prog laidL 6 keyTw r := fun r h => (List.mem_append.1 h).elim (fun h => @rowsX_ok hookC _ _ _ _ _ _ nw0_ok r h) (fun h => (List.mem_append.1 h).elim (fun h => @rowsX_ok hookC _ _ _ _ _ _ nw1_ok r h) (fun h => @rowsX_ok hookC _ _ _ _ _ _ nw2_ok r h))
set_option maxRecDepth 100000 in
theorem drows_ok : ∀ r ∈ drows, @RowRunsX hookC Tryz.prog laidL 7 keyTw r := fun r h => (List.mem_append.1 h).elim (fun h => @rowsX_ok hookC _ _ _ _ _ _ dw0_ok r h) (fun h => (List.mem_append.1 h).elim (fun h => @rowsX_ok hookC _ _ _ _ _ _ dw1_ok r h) (fun h => (List.mem_append.1 h).elim (fun h => @rowsX_ok hookC _ _ _ _ _ _ dw2_ok r h) (fun h => (List.mem_append.1 h).elim (fun h => @rowsX_ok hookC _ _ _ _ _ _ dw3_ok r h) (fun h => (List.mem_append.1 h).elim (fun h => @rowsX_ok hookC _ _ _ _ _ _ dw4_ok r h) (fun h => (List.mem_append.1 h).elim (fun h => @rowsX_ok hookC _ _ _ _ _ _ dw5_ok r h) (fun h => @rowsX_ok hookC _ _ _ _ _ _ dw6_ok r h))))))
set_option maxRecDepth 100000 in
theorem brows_ok : ∀ r ∈ brows, @RowRunsX hookC Tryz.prog laidL 17 keyTw r := fun r h => (List.mem_append.1 h).elim (fun h => @rowsX_ok hookC _ _ _ _ _ _ bw0_ok r h) (fun h => (List.mem_append.1 h).elim (fun h => @rowsX_ok hookC _ _ _ _ _ _ bw1_ok r h) (fun h => @rowsX_ok hookC _ _ _ _ _ _ bw2_ok r h))
theorem sat_nD (hm : b.w.cell? ⟨0, 0, none⟩ = some (.int .i64 m)) (hk : b.Keeps Tryz.prog laidL tot) : @Sat hookD Tryz.prog b 6 13 := ⟨@mprimX_ok hookC Tryz.prog (rows_ok hookC rfl) mixed g64 laidL tot 6 keyTw nrows nrows_ok b hk (fun b' hk' hc => sumC (b := b') (hc 0 _ gm_lt hm) hk'), fun _ r hr => by cases hr⟩
theorem sat_dD (hm : b.w.cell? ⟨0, 0, none⟩ = some (.int .i64 m)) (hk : b.Keeps Tryz.prog laidL tot) : @Sat hookD Tryz.prog b 7 14 := ⟨@mprimX_ok hookC Tryz.prog (rows_ok hookC rfl) mixed g64 laidL tot 7 keyTw drows drows_ok b hk (fun b' hk' hc => sumC (b := b') (hc 0 _ gm_lt hm) hk'), fun _ r hr => by cases hr⟩
theorem sat_bD (hm : b.w.cell? ⟨0, 0, none⟩ = some (.int .i64 m)) (hk : b.Keeps Tryz.prog laidL tot) : @Sat hookD Tryz.prog b 17 15 := ⟨@mprimX_ok hookC Tryz.prog (rows_ok hookC rfl) mixed g64 laidL tot 17 keyTw brows brows_ok b hk (fun b' hk' hc => sumC (b := b') (hc 0 _ gm_lt hm) hk'), fun _ r hr => by cases hr⟩
theorem sat_nM (hm : b.w.cell? ⟨0, 0, none⟩ = some (.int .i64 m)) (hk : b.Keeps Tryz.prog laidL tot) : @Sat hookM Tryz.prog b 6 13 := ⟨@mprimX_ok hookC Tryz.prog (rows_ok hookC rfl) mixed g64 laidL tot 6 keyTw nrows nrows_ok b hk (fun b' hk' hc => sumC (b := b') (hc 0 _ gm_lt hm) hk'), fun _ r hr => by cases hr⟩
theorem sat_dM (hm : b.w.cell? ⟨0, 0, none⟩ = some (.int .i64 m)) (hk : b.Keeps Tryz.prog laidL tot) : @Sat hookM Tryz.prog b 7 14 := ⟨@mprimX_ok hookC Tryz.prog (rows_ok hookC rfl) mixed g64 laidL tot 7 keyTw drows drows_ok b hk (fun b' hk' hc => sumC (b := b') (hc 0 _ gm_lt hm) hk'), fun _ r hr => by cases hr⟩
theorem sat_bM (hm : b.w.cell? ⟨0, 0, none⟩ = some (.int .i64 m)) (hk : b.Keeps Tryz.prog laidL tot) : @Sat hookM Tryz.prog b 17 15 := ⟨@mprimX_ok hookC Tryz.prog (rows_ok hookC rfl) mixed g64 laidL tot 17 keyTw brows brows_ok b hk (fun b' hk' hc => sumC (b := b') (hc 0 _ gm_lt hm) hk'), fun _ r hr => by cases hr⟩
theorem sumD (hm : b.w.cell? ⟨0, 0, none⟩ = some (.int .i64 m)) (hk : b.Keeps Tryz.prog laidL tot) : @SumOk Tryz.prog hookD b :=
  @sumOk_of hookD _ _ (@sums_of hookD _ b sumLD rfl (List.forall_mem_cons.2 ⟨body6, (List.forall_mem_cons.2 ⟨body7, (List.forall_mem_cons.2 ⟨body17, (List.forall_mem_cons.2 ⟨body25, (List.forall_mem_cons.2 ⟨body130, (List.forall_mem_cons.2 ⟨body299, (List.forall_mem_cons.2 ⟨body453, (List.forall_mem_cons.2 ⟨body84, (List.forall_mem_cons.2 ⟨body243, (List.forall_mem_cons.2 ⟨body49, (List.forall_mem_cons.2 ⟨body451, (List.forall_mem_cons.2 ⟨body200, (List.forall_mem_cons.2 ⟨body295, (List.forall_mem_cons.2 ⟨body124, (by intro q h; cases h)⟩)⟩)⟩)⟩)⟩)⟩)⟩)⟩)⟩)⟩)⟩)⟩)⟩)⟩) (List.forall_mem_cons.2 ⟨sat_nD hm hk, (List.forall_mem_cons.2 ⟨sat_dD hm hk, (List.forall_mem_cons.2 ⟨sat_bD hm hk, (List.forall_mem_cons.2 ⟨sat_cD hm hk, (List.forall_mem_cons.2 ⟨sat_tD hm hk, (List.forall_mem_cons.2 ⟨sat_m0d hm hk, (List.forall_mem_cons.2 ⟨sat_m1d hm hk, (List.forall_mem_cons.2 ⟨(⟨@sortedStr_ok Tryz.prog b 84 9 isItS (sortedAtS b), fun _ r hr => by cases hr⟩ : @Sat hookD Tryz.prog b 84 7), (List.forall_mem_cons.2 ⟨(⟨@sortedInt_ok Tryz.prog b 243 3 isItI (sortedAtI b), fun _ r hr => by cases hr⟩ : @Sat hookD Tryz.prog b 243 8), (List.forall_mem_cons.2 ⟨(⟨@repeatP_ok Tryz.prog b 49 (repeat_at b), fun _ r hr => by cases hr⟩ : @Sat hookD Tryz.prog b 49 9), (List.forall_mem_cons.2 ⟨(⟨indexBits_ok (index_at b), fun _ r hr => by cases hr⟩ : @Sat hookD Tryz.prog b 451 10), (List.forall_mem_cons.2 ⟨@sat_ix b m hookD hm hk, (List.forall_mem_cons.2 ⟨@sat_ixl b m hookD hm hk, (List.forall_mem_cons.2 ⟨@sat_co b m hookD hm hk, (by intro q h; cases h)⟩)⟩)⟩)⟩)⟩)⟩)⟩)⟩)⟩)⟩)⟩)⟩)⟩)⟩))
/-- 'awake' answers true, in whatever world -/
theorem awake_ok (hm : W.cell? ⟨0, 0, none⟩ = some (.int .i64 m)) (hL : LaidOk Tryz.prog laidL tot W) : Calls Tryz.prog 5 #[] W fun e w' => e = .returned (.bool true) ∧ Grew W w' :=
  @truth_of hookD _ (rows_ok hookD rfl) mixed g64 laidL tot 5 [] [] W (sumD (b := Base.at W _) hm (.of_at hL)) hL .nil _ awake_run
theorem sat_aw [Hook] (hm : b.w.cell? ⟨0, 0, none⟩ = some (.int .i64 m)) (hk : b.Keeps Tryz.prog laidL tot) : Sat Tryz.prog b 5 3 := fun _ hs ho => awake_ok (cell_keeps hk hm gm_lt ho) (hk.world hs ho)
theorem sumM (hm : b.w.cell? ⟨0, 0, none⟩ = some (.int .i64 m)) (hk : b.Keeps Tryz.prog laidL tot) : @SumOk Tryz.prog hookM b :=
  @sumOk_of hookM _ _ (@sums_of hookM _ b sumLM rfl (List.forall_mem_cons.2 ⟨body5, (List.forall_mem_cons.2 ⟨body6, (List.forall_mem_cons.2 ⟨body7, (List.forall_mem_cons.2 ⟨body17, (List.forall_mem_cons.2 ⟨body25, (List.forall_mem_cons.2 ⟨body130, (List.forall_mem_cons.2 ⟨body299, (List.forall_mem_cons.2 ⟨body453, (List.forall_mem_cons.2 ⟨body84, (List.forall_mem_cons.2 ⟨body243, (List.forall_mem_cons.2 ⟨body49, (List.forall_mem_cons.2 ⟨body451, (List.forall_mem_cons.2 ⟨body200, (List.forall_mem_cons.2 ⟨body295, (List.forall_mem_cons.2 ⟨body124, (by intro q h; cases h)⟩)⟩)⟩)⟩)⟩)⟩)⟩)⟩)⟩)⟩)⟩)⟩)⟩)⟩)⟩) (List.forall_mem_cons.2 ⟨@sat_aw b m hookM hm hk, (List.forall_mem_cons.2 ⟨sat_nM hm hk, (List.forall_mem_cons.2 ⟨sat_dM hm hk, (List.forall_mem_cons.2 ⟨sat_bM hm hk, (List.forall_mem_cons.2 ⟨sat_cM hm hk, (List.forall_mem_cons.2 ⟨sat_tM hm hk, (List.forall_mem_cons.2 ⟨sat_m0b hm hk, (List.forall_mem_cons.2 ⟨sat_m1b hm hk, (List.forall_mem_cons.2 ⟨(⟨@sortedStr_ok Tryz.prog b 84 9 isItS (sortedAtS b), fun _ r hr => by cases hr⟩ : @Sat hookM Tryz.prog b 84 7), (List.forall_mem_cons.2 ⟨(⟨@sortedInt_ok Tryz.prog b 243 3 isItI (sortedAtI b), fun _ r hr => by cases hr⟩ : @Sat hookM Tryz.prog b 243 8), (List.forall_mem_cons.2 ⟨(⟨@repeatP_ok Tryz.prog b 49 (repeat_at b), fun _ r hr => by cases hr⟩ : @Sat hookM Tryz.prog b 49 9), (List.forall_mem_cons.2 ⟨(⟨indexBits_ok (index_at b), fun _ r hr => by cases hr⟩ : @Sat hookM Tryz.prog b 451 10), (List.forall_mem_cons.2 ⟨@sat_ix b m hookM hm hk, (List.forall_mem_cons.2 ⟨@sat_ixl b m hookM hm hk, (List.forall_mem_cons.2 ⟨@sat_co b m hookM hm hk, (by intro q h; cases h)⟩)⟩)⟩)⟩)⟩)⟩)⟩)⟩)⟩)⟩)⟩)⟩)⟩)⟩)⟩))
/-- the law answers true, in whatever world -/
theorem law_ok (hm : W.cell? ⟨0, 0, none⟩ = some (.int .i64 m)) (hL : LaidOk Tryz.prog laidL tot W) (x1 : Int) : Calls Tryz.prog 4 ⟨[.int .i64 x1]⟩ W fun e w' => e = .returned (.bool true) ∧ Grew W w' := by
  have key : ∀ av : List AV, RelL (startRho tot Tryz.prog.globals.size) av [.int .i64 x1] → @runF Tryz.prog hookM isTrue 500000 (startSt Tryz.prog laidL 4 av) = true → Calls Tryz.prog 4 ⟨[.int .i64 x1]⟩ W fun e w' => e = .returned (.bool true) ∧ Grew W w' :=
    fun av hr hrun => @truth_of hookM _ (rows_ok hookM rfl) mixed g64 laidL tot 4 av [.int .i64 x1] W (sumM (b := Base.at W _) hm (.of_at hL)) hL hr _ hrun
  obtain ⟨j1, l1, h1⟩ := red_and 3 (by decide) x1
  obtain rfl | rfl | rfl | rfl : j1 = 0 ∨ j1 = 1 ∨ j1 = 2 ∨ j1 = 3 := by omega
  · skip
    exact key [.red .i64 true 3 0] (.cons _ _ _ _ (.red _ _ _ _ _ h1) .nil) main_run_0
  · skip
    exact key [.red .i64 true 3 1] (.cons _ _ _ _ (.red _ _ _ _ _ h1) .nil) main_run_1
  · skip
    exact key [.red .i64 true 3 2] (.cons _ _ _ _ (.red _ _ _ _ _ h1) .nil) main_run_2
  · skip
    exact key [.red .i64 true 3 3] (.cons _ _ _ _ (.red _ _ _ _ _ h1) .nil) main_run_3
end
theorem own : ownKnob Tryz.prog.godebug = none := by kernel_rfl
theorem gSpace : Tryz.prog.globalNamed "strings.asciiSpace" = some 1 := by kernel_rfl
theorem tSpace : (Tryz.prog.globals[1]?).map (·.type) = some 573 := by kernel_rfl
theorem lSpace : spaceZ.length = 256 := by kernel_rfl
theorem dSpace : (Rows.laid_strings_asciiSpace : DataW Unit) = .agg (spaceZ.map fun z => .lit (.int .u8 z)) := by kernel_rfl
theorem laid_of {W : World} (hs : Tryz.prog.globals.size ≤ W.heap.size) (h : laidMetH Tryz.prog Rows.towerOffRow.laid W) : LaidOk Tryz.prog laidL tot W := by
  rw [MakeChecks.laidMetH_plain _ _ _ (by kernel_rfl)] at h
  obtain ⟨ps, ⟨_, _, _, _, _, _, _, _, _, _, ⟨_, _, _, _, _, _, _, _, _, _, ⟨g, t, cs, fuel, p, q, hg, ht, hv, hd, _, _⟩, _⟩, _⟩, _, _⟩ := h
  obtain rfl := Option.some.inj (gSpace.symm.trans hg)
  obtain rfl := Option.some.inj (tSpace.symm.trans ht)
  rw [dSpace] at hd
  have hT := table_of gSpace hv Tryz.underlying573 Tryz.underlying5 (by kernel_rfl) (by kernel_rfl) lSpace hd
  refine ⟨hs, fun g o _ hl N ρ => ?_⟩
  by_cases e : g = 1
  · subst e
    obtain rfl : AObj.fixed 0 (spaceZ.map fun z => AV.int .u8 z) = o := Option.some.inj hl
    exact hT N ρ
  · have hne : (g == 1) = false := by simpa using e
    simp only [laidL, List.lookup, hne] at hl
    cases hl
theorem heap_size {W : World} (h : W.ShapedOpen Tryz.prog) : Tryz.prog.globals.size ≤ W.heap.size := by
  obtain ⟨o, _, ho, _⟩ := h.2 _ (Nat.le_refl _) (of_decide_eq_true (by kernel_rfl))
  exact Nat.le_of_lt (Array.getElem?_eq_some_iff.1 ho).1
set_option maxRecDepth 100000 in
theorem lifted (os : Os) (started : os.Started) (H : Type) (enc : TypeId × Value → H) :
    ReturnsInHanded {} Tryz.checked os 4 .any (fun w args => (Rows.towerOffSpec.pre enc Tryz.prog Tryz.f4 Rows.towerOffRow.domain false w args ∧ laidMetH Tryz.prog Rows.towerOffRow.laid w) ∧ sizedMet enc Tryz.prog Tryz.f4 (OpenSpec.ofChange Rows.towerOffSpec) false w args)
      (Rows.towerOffSpec.post enc Tryz.prog Tryz.f4 false true false false) := by
  refine handed_of (C := Tryz.checked) (X := fun w _ => laidMetH Tryz.prog Rows.towerOffRow.laid w) (fun _ _ _ hh h => h.of_heap hh) own started (by kernel_rfl) Tryz.func4
    (ChangeSpec.witness_shaped (enc := enc) (C := Tryz.checked) (os := os) (X := fun w _ => laidMetH Tryz.prog Rows.towerOffRow.laid w) false (World.laidAll Tryz.prog os Rows.towerOffRow.laid) #[.int .i64 0] 8 (World.laidAll_os _ _ _)
      (World.shaped_of_ZipB (by kernel_rfl) (by kernel_rfl)) (by kernel_rfl) (by kernel_rfl) (by kernel_rfl)
      (by rw [MakeChecks.laidMetH_plain _ _ _ (by kernel_rfl)]; exact laidMet_laidAll _ (by kernel_rfl) (by kernel_rfl))) ?_
  intro W base args ds gs before hval0 hW hL hsh
  have hW' := hW
  obtain ⟨p, q, hA0, hV, rfl, _, _⟩ := hW
  have hA : DataW.TrodAll enc Tryz.prog W 0 (fun _ => true) true Tryz.f4.params.toList args.toList ds p := hA0
  rw [Tryz.params4] at hA
  obtain ⟨u1, d1, rfl, rfl, hd1⟩ := trodAll_one hA
  obtain ⟨x1, rfl, rfl, rfl, wf1⟩ := open_int Tryz.underlying3 (hval0 0 _ _ (by rw [← Array.getElem?_toList, Tryz.params4]; rfl) rfl) hd1
  obtain ⟨rfl, rfl⟩ := trodVars_none hV
  obtain ⟨m, hm⟩ := Tryz.laysM143.s1_3 W hsh
  refine (law_ok hm (laid_of (heap_size hsh) hL) x1).mono fun e W' ⟨he, hg⟩ => ?_
  subst he
  exact ⟨_, rfl, post_of_grew hW' (fun _ _ _ => trodAll_mk1 (shut_bool Tryz.underlying4 _)) (fun _ => by rw [Tryz.params4]; exact (trodAll_cons_mk (shut_int Tryz.underlying3 wf1) trodAll_mk0)) (fun _ => rfl) hg⟩
end Go.Proofs.YtpijekjadohebaaGreatDoor
