/- TowerCycles answers true, and nothing that was there is turned: the contract, out of the evaluator's runs, and its lift to the row's form. Conditions: those of the given row (the listed variables read as listed). -/
import Derived.Test.YtbblahphgmkgnaaGreatDoorTyRA
import Derived.Test.YtbblahphgmkgnaaGreatDoorTyMT
import Derived.Test.YtbblahphgmkgnaaGreatDoorTyTX0
import Derived.Test.YtbblahphgmkgnaaGreatDoorTyTX1
import Derived.Test.YtbblahphgmkgnaaGreatDoorTyCX0
import Derived.Test.YtbblahphgmkgnaaGreatDoorTyCX1
import Derived.Test.YtbblahphgmkgnaaGreatDoorTyNX0
import Derived.Test.YtbblahphgmkgnaaGreatDoorTyDX0
import Derived.Test.YtbblahphgmkgnaaGreatDoorTyDX1
import Derived.Test.YtbblahphgmkgnaaGreatDoorTyDX2
import Derived.Test.YtbblahphgmkgnaaGreatDoorTyDX3
import Derived.Test.YtbblahphgmkgnaaGreatDoorTyDX4
import Derived.Test.YtbblahphgmkgnaaGreatDoorTyDX5
import Derived.Test.YtbblahphgmkgnaaGreatDoorTyDX6
import Derived.Test.YtbblahphgmkgnaaGreatDoorTyDX7
import Derived.Test.YtbblahphgmkgnaaGreatDoorTyDX8
import Derived.Test.YtbblahphgmkgnaaGreatDoorTyDX9
import Derived.Test.YtbblahphgmkgnaaGreatDoorTyRM0
import Derived.Test.YtbblahphgmkgnaaGreatDoorTyRM1
import Derived.Test.YtbblahphgmkgnaaGreatDoorTyRM2
import Derived.Test.YtbblahphgmkgnaaGreatDoorTyRM3
import Derived.Test.YtbblahphgmkgnaaGreatDoorRows
import Derived.SevenTiedAt
import Derived.Stop.Joined
import Derived.OpenShut
namespace Go.Proofs.YtbblahphgmkgnaaGreatDoor
open Go.ChangeShapes Go.WideShapes Go.ChangeAt Go.RowKit Go.VM
theorem mixed : Tryz.prog.follows .mixedOrders = true := by kernel_rfl
theorem g64 : Tryz.prog.globals.size ≤ 64 := by decide +kernel
theorem row472 : Extern.findNext Tryz.f472 = none ∧ Extern.find Tryz.f472 = some Extern.BytealgIndexByte.indexByte := ⟨by kernel_rfl, by kernel_rfl⟩
theorem vm472 : vmRow 4 Tryz.f472 = some Extern.BytealgIndexByte.indexByte := rfl
theorem row251 : Extern.findNext Tryz.f251 = none ∧ Extern.find Tryz.f251 = some (Extern.BytealgMakeNoZero.makeNoZero Tryz.f251.params Tryz.f251.resultTypes) := ⟨by kernel_rfl, by kernel_rfl⟩
theorem vm251 : vmRow 5 Tryz.f251 = some (Extern.BytealgMakeNoZero.makeNoZero Tryz.f251.params Tryz.f251.resultTypes) := rfl
theorem row583 : Extern.findNext Tryz.f583 = none ∧ Extern.find Tryz.f583 = some Extern.MathFloatBits.float64bits := ⟨by kernel_rfl, by kernel_rfl⟩
theorem vm583 : vmRow 1 Tryz.f583 = some Extern.MathFloatBits.float64bits := rfl
theorem row562 : Extern.findNext Tryz.f562 = none ∧ Extern.find Tryz.f562 = some Extern.MathFloatBits.float64frombits := ⟨by kernel_rfl, by kernel_rfl⟩
theorem vm562 : vmRow 2 Tryz.f562 = some Extern.MathFloatBits.float64frombits := rfl
theorem row250 : Extern.findNext Tryz.f250 = none ∧ Extern.find Tryz.f250 = some Extern.AbiNoEscape.same := ⟨by kernel_rfl, by kernel_rfl⟩
theorem vm250 : vmRow 3 Tryz.f250 = some Extern.AbiNoEscape.same := rfl
theorem row599 : Extern.findNext Tryz.f599 = none ∧ Extern.find Tryz.f599 = some (Extern.MathFloor.toIntegral "math.archTrunc" .zero) := ⟨by kernel_rfl, by kernel_rfl⟩
theorem vm599 : vmRow 6 Tryz.f599 = some (Extern.MathFloor.toIntegral "math.archTrunc" .zero) := rfl
theorem row127 : Extern.findNext Tryz.f127 = none ∧ Extern.find Tryz.f127 = some Extern.MapsClone.clone := ⟨by kernel_rfl, by kernel_rfl⟩
theorem vm127 : vmRow 7 Tryz.f127 = some Extern.MapsClone.clone := rfl
theorem rows_ok (H : Hook) (hH : H.exts = lookN extL) : @RowsOk H Tryz.prog := by
  refine @rowsOk_of H _ extL (fun f => by show H.exts f = _; rw [hH]) fun f k hm fd hp impl hv => ?_
  simp only [extL, List.mem_cons, List.not_mem_nil, or_false, Prod.mk.injEq] at hm
  rcases hm with ⟨rfl, rfl⟩ | ⟨rfl, rfl⟩ | ⟨rfl, rfl⟩ | ⟨rfl, rfl⟩ | ⟨rfl, rfl⟩ | ⟨rfl, rfl⟩ | ⟨rfl, rfl⟩
  · rw [Tryz.func472] at hp; cases hp; rw [vm472] at hv; cases hv; exact row472
  · rw [Tryz.func251] at hp; cases hp; rw [vm251] at hv; cases hv; exact row251
  · rw [Tryz.func583] at hp; cases hp; rw [vm583] at hv; cases hv; exact row583
  · rw [Tryz.func562] at hp; cases hp; rw [vm562] at hv; cases hv; exact row562
  · rw [Tryz.func250] at hp; cases hp; rw [vm250] at hv; cases hv; exact row250
  · rw [Tryz.func599] at hp; cases hp; rw [vm599] at hv; cases hv; exact row599
  · rw [Tryz.func127] at hp; cases hp; rw [vm127] at hv; cases hv; exact row127
theorem body6 : ∃ c, bodyOf Tryz.prog 6 = some c := body_of Tryz.func6 (by kernel_rfl) (by kernel_rfl)
theorem body11 : ∃ c, bodyOf Tryz.prog 11 = some c := body_of Tryz.func11 (by kernel_rfl) (by kernel_rfl)
theorem body12 : ∃ c, bodyOf Tryz.prog 12 = some c := body_of Tryz.func12 (by kernel_rfl) (by kernel_rfl)
theorem body32 : ∃ c, bodyOf Tryz.prog 32 = some c := body_of Tryz.func32 (by kernel_rfl) (by kernel_rfl)
theorem body132 : ∃ c, bodyOf Tryz.prog 132 = some c := body_of Tryz.func132 (by kernel_rfl) (by kernel_rfl)
theorem body301 : ∃ c, bodyOf Tryz.prog 301 = some c := body_of Tryz.func301 (by kernel_rfl) (by kernel_rfl)
theorem body456 : ∃ c, bodyOf Tryz.prog 456 = some c := body_of Tryz.func456 (by kernel_rfl) (by kernel_rfl)
theorem body93 : ∃ c, bodyOf Tryz.prog 93 = some c := body_of Tryz.func93 (by kernel_rfl) (by kernel_rfl)
theorem body244 : ∃ c, bodyOf Tryz.prog 244 = some c := body_of Tryz.func244 (by kernel_rfl) (by kernel_rfl)
theorem body52 : ∃ c, bodyOf Tryz.prog 52 = some c := body_of Tryz.func52 (by kernel_rfl) (by kernel_rfl)
theorem body454 : ∃ c, bodyOf Tryz.prog 454 = some c := body_of Tryz.func454 (by kernel_rfl) (by kernel_rfl)
theorem body201 : ∃ c, bodyOf Tryz.prog 201 = some c := body_of Tryz.func201 (by kernel_rfl) (by kernel_rfl)
theorem body297 : ∃ c, bodyOf Tryz.prog 297 = some c := body_of Tryz.func297 (by kernel_rfl) (by kernel_rfl)
theorem body126 : ∃ c, bodyOf Tryz.prog 126 = some c := body_of Tryz.func126 (by kernel_rfl) (by kernel_rfl)
theorem gm_lt : 0 < Tryz.prog.globals.size := by decide +kernel
section
variable {b : Base} {W : World} {m : Int}
theorem sat_ix [Hook] (hm : b.w.cell? ⟨0, 0, none⟩ = some (.int .i64 m)) (hk : b.Keeps Tryz.prog laidL tot) : Sat Tryz.prog b 201 1 := fun s sub w _ ho hl => Any.strings_Index { Tryz.laysM143 with } s sub m w hl (cell_keeps hk hm gm_lt ho)
theorem sat_ixl [Hook] (hm : b.w.cell? ⟨0, 0, none⟩ = some (.int .i64 m)) (hk : b.Keeps Tryz.prog laidL tot) : Sat Tryz.prog b 297 1 := fun s sub w _ ho hl => Any.stringslite_Index { Tryz.laysM219 with } s sub m w hl (cell_keeps hk hm gm_lt ho)
theorem sat_co [Hook] (hm : b.w.cell? ⟨0, 0, none⟩ = some (.int .i64 m)) (hk : b.Keeps Tryz.prog laidL tot) : Sat Tryz.prog b 126 2 := fun s sub w _ ho hl => Any.strings_Contains { Tryz.laysM144 with } s sub m w hl (cell_keeps hk hm gm_lt ho)
theorem sum0 (hm : b.w.cell? ⟨0, 0, none⟩ = some (.int .i64 m)) (hk : b.Keeps Tryz.prog laidL tot) : @SumOk Tryz.prog hook0 b :=
  @sumOk_of hook0 _ _ (@sums_of hook0 _ b sumL rfl (List.forall_mem_cons.2 ⟨body201, (List.forall_mem_cons.2 ⟨body297, (List.forall_mem_cons.2 ⟨body126, (by intro q h; cases h)⟩)⟩)⟩) (List.forall_mem_cons.2 ⟨@sat_ix b m hook0 hm hk, (List.forall_mem_cons.2 ⟨@sat_ixl b m hook0 hm hk, (List.forall_mem_cons.2 ⟨@sat_co b m hook0 hm hk, (by intro q h; cases h)⟩)⟩)⟩))
theorem sat_m0a (hm : b.w.cell? ⟨0, 0, none⟩ = some (.int .i64 m)) (hk : b.Keeps Tryz.prog laidL tot) : @Sat hookA Tryz.prog b 301 4 := ⟨PrimOk.none (k := 0), fun a r hr => ⟨@row_ok hook0 _ laidL 301 key0 r (tab0_ok a r hr), fun _ _ _ hrel hs ho => @memo_of hook0 _ (rows_ok hook0 rfl) mixed g64 laidL tot 301 r key0 _ (sum0 (b := Base.at _ _) (cell_keeps hk hm gm_lt ho) (.of_at (hk.world hs ho))) (hk.world hs ho) _ _ hrel (tab0_ok a r hr)⟩⟩
theorem sat_m0b (hm : b.w.cell? ⟨0, 0, none⟩ = some (.int .i64 m)) (hk : b.Keeps Tryz.prog laidL tot) : @Sat hookM Tryz.prog b 301 4 := ⟨PrimOk.none (k := 0), fun a r hr => ⟨@row_ok hook0 _ laidL 301 key0 r (tab0_ok a r hr), fun _ _ _ hrel hs ho => @memo_of hook0 _ (rows_ok hook0 rfl) mixed g64 laidL tot 301 r key0 _ (sum0 (b := Base.at _ _) (cell_keeps hk hm gm_lt ho) (.of_at (hk.world hs ho))) (hk.world hs ho) _ _ hrel (tab0_ok a r hr)⟩⟩
theorem sat_m0c (hm : b.w.cell? ⟨0, 0, none⟩ = some (.int .i64 m)) (hk : b.Keeps Tryz.prog laidL tot) : @Sat hookC Tryz.prog b 301 4 := ⟨PrimOk.none (k := 0), fun a r hr => ⟨@row_ok hook0 _ laidL 301 key0 r (tab0_ok a r hr), fun _ _ _ hrel hs ho => @memo_of hook0 _ (rows_ok hook0 rfl) mixed g64 laidL tot 301 r key0 _ (sum0 (b := Base.at _ _) (cell_keeps hk hm gm_lt ho) (.of_at (hk.world hs ho))) (hk.world hs ho) _ _ hrel (tab0_ok a r hr)⟩⟩
theorem sat_m0d (hm : b.w.cell? ⟨0, 0, none⟩ = some (.int .i64 m)) (hk : b.Keeps Tryz.prog laidL tot) : @Sat hookD Tryz.prog b 301 4 := ⟨PrimOk.none (k := 0), fun a r hr => ⟨@row_ok hook0 _ laidL 301 key0 r (tab0_ok a r hr), fun _ _ _ hrel hs ho => @memo_of hook0 _ (rows_ok hook0 rfl) mixed g64 laidL tot 301 r key0 _ (sum0 (b := Base.at _ _) (cell_keeps hk hm gm_lt ho) (.of_at (hk.world hs ho))) (hk.world hs ho) _ _ hrel (tab0_ok a r hr)⟩⟩
theorem sat_m0e (hm : b.w.cell? ⟨0, 0, none⟩ = some (.int .i64 m)) (hk : b.Keeps Tryz.prog laidL tot) : @Sat hookB Tryz.prog b 301 4 := ⟨PrimOk.none (k := 0), fun a r hr => ⟨@row_ok hook0 _ laidL 301 key0 r (tab0_ok a r hr), fun _ _ _ hrel hs ho => @memo_of hook0 _ (rows_ok hook0 rfl) mixed g64 laidL tot 301 r key0 _ (sum0 (b := Base.at _ _) (cell_keeps hk hm gm_lt ho) (.of_at (hk.world hs ho))) (hk.world hs ho) _ _ hrel (tab0_ok a r hr)⟩⟩
theorem sat_m1a (hm : b.w.cell? ⟨0, 0, none⟩ = some (.int .i64 m)) (hk : b.Keeps Tryz.prog laidL tot) : @Sat hookA Tryz.prog b 456 5 := ⟨PrimOk.none (k := 1), fun a r hr => ⟨@row_ok hook0 _ laidL 456 key0 r (tab1_ok a r hr), fun _ _ _ hrel hs ho => @memo_of hook0 _ (rows_ok hook0 rfl) mixed g64 laidL tot 456 r key0 _ (sum0 (b := Base.at _ _) (cell_keeps hk hm gm_lt ho) (.of_at (hk.world hs ho))) (hk.world hs ho) _ _ hrel (tab1_ok a r hr)⟩⟩
theorem sat_m1b (hm : b.w.cell? ⟨0, 0, none⟩ = some (.int .i64 m)) (hk : b.Keeps Tryz.prog laidL tot) : @Sat hookM Tryz.prog b 456 5 := ⟨PrimOk.none (k := 1), fun a r hr => ⟨@row_ok hook0 _ laidL 456 key0 r (tab1_ok a r hr), fun _ _ _ hrel hs ho => @memo_of hook0 _ (rows_ok hook0 rfl) mixed g64 laidL tot 456 r key0 _ (sum0 (b := Base.at _ _) (cell_keeps hk hm gm_lt ho) (.of_at (hk.world hs ho))) (hk.world hs ho) _ _ hrel (tab1_ok a r hr)⟩⟩
theorem sat_m1c (hm : b.w.cell? ⟨0, 0, none⟩ = some (.int .i64 m)) (hk : b.Keeps Tryz.prog laidL tot) : @Sat hookC Tryz.prog b 456 5 := ⟨PrimOk.none (k := 1), fun a r hr => ⟨@row_ok hook0 _ laidL 456 key0 r (tab1_ok a r hr), fun _ _ _ hrel hs ho => @memo_of hook0 _ (rows_ok hook0 rfl) mixed g64 laidL tot 456 r key0 _ (sum0 (b := Base.at _ _) (cell_keeps hk hm gm_lt ho) (.of_at (hk.world hs ho))) (hk.world hs ho) _ _ hrel (tab1_ok a r hr)⟩⟩
theorem sat_m1d (hm : b.w.cell? ⟨0, 0, none⟩ = some (.int .i64 m)) (hk : b.Keeps Tryz.prog laidL tot) : @Sat hookD Tryz.prog b 456 5 := ⟨PrimOk.none (k := 1), fun a r hr => ⟨@row_ok hook0 _ laidL 456 key0 r (tab1_ok a r hr), fun _ _ _ hrel hs ho => @memo_of hook0 _ (rows_ok hook0 rfl) mixed g64 laidL tot 456 r key0 _ (sum0 (b := Base.at _ _) (cell_keeps hk hm gm_lt ho) (.of_at (hk.world hs ho))) (hk.world hs ho) _ _ hrel (tab1_ok a r hr)⟩⟩
theorem sat_m1e (hm : b.w.cell? ⟨0, 0, none⟩ = some (.int .i64 m)) (hk : b.Keeps Tryz.prog laidL tot) : @Sat hookB Tryz.prog b 456 5 := ⟨PrimOk.none (k := 1), fun a r hr => ⟨@row_ok hook0 _ laidL 456 key0 r (tab1_ok a r hr), fun _ _ _ hrel hs ho => @memo_of hook0 _ (rows_ok hook0 rfl) mixed g64 laidL tot 456 r key0 _ (sum0 (b := Base.at _ _) (cell_keeps hk hm gm_lt ho) (.of_at (hk.world hs ho))) (hk.world hs ho) _ _ hrel (tab1_ok a r hr)⟩⟩
theorem sumA (hm : b.w.cell? ⟨0, 0, none⟩ = some (.int .i64 m)) (hk : b.Keeps Tryz.prog laidL tot) : @SumOk Tryz.prog hookA b :=
  @sumOk_of hookA _ _ (@sums_of hookA _ b sumLA rfl (List.forall_mem_cons.2 ⟨body301, (List.forall_mem_cons.2 ⟨body456, (List.forall_mem_cons.2 ⟨body93, (List.forall_mem_cons.2 ⟨body244, (List.forall_mem_cons.2 ⟨body52, (List.forall_mem_cons.2 ⟨body454, (List.forall_mem_cons.2 ⟨body201, (List.forall_mem_cons.2 ⟨body297, (List.forall_mem_cons.2 ⟨body126, (by intro q h; cases h)⟩)⟩)⟩)⟩)⟩)⟩)⟩)⟩)⟩) (List.forall_mem_cons.2 ⟨sat_m0a hm hk, (List.forall_mem_cons.2 ⟨sat_m1a hm hk, (List.forall_mem_cons.2 ⟨(⟨@sortedStr_ok Tryz.prog b 93 9 isItS (sortedAtS b), fun _ r hr => by cases hr⟩ : @Sat hookA Tryz.prog b 93 7), (List.forall_mem_cons.2 ⟨(⟨@sortedInt_ok Tryz.prog b 244 3 isItI (sortedAtI b), fun _ r hr => by cases hr⟩ : @Sat hookA Tryz.prog b 244 8), (List.forall_mem_cons.2 ⟨(⟨@repeatP_ok Tryz.prog b 52 (repeat_at b), fun _ r hr => by cases hr⟩ : @Sat hookA Tryz.prog b 52 9), (List.forall_mem_cons.2 ⟨(⟨indexBits_ok (index_at b), fun _ r hr => by cases hr⟩ : @Sat hookA Tryz.prog b 454 10), (List.forall_mem_cons.2 ⟨@sat_ix b m hookA hm hk, (List.forall_mem_cons.2 ⟨@sat_ixl b m hookA hm hk, (List.forall_mem_cons.2 ⟨@sat_co b m hookA hm hk, (by intro q h; cases h)⟩)⟩)⟩)⟩)⟩)⟩)⟩)⟩)⟩))
set_option maxRecDepth 100000 in
theorem trows_ok : ∀ r ∈ trows, @RowRunsX hookA Tryz.prog laidL 132 keyTw r := fun r h => (List.mem_append.1 h).elim (fun h => @rowsX_ok hookA _ _ _ _ _ _ tw0_ok r h) (fun h => (List.mem_append.1 h).elim (fun h => @rowsX_ok hookA _ _ _ _ _ _ tw1_ok r h) (fun h => @rowsX_ok hookA _ _ _ _ _ _ tw2_ok r h))
theorem sat_tB (hm : b.w.cell? ⟨0, 0, none⟩ = some (.int .i64 m)) (hk : b.Keeps Tryz.prog laidL tot) : @Sat hookB Tryz.prog b 132 11 := ⟨@mprimX_ok hookA Tryz.prog (rows_ok hookA rfl) mixed g64 laidL tot 132 keyTw trows trows_ok b hk (fun b' hk' hc => sumA (b := b') (hc 0 _ gm_lt hm) hk'), fun _ r hr => by cases hr⟩
theorem sat_tC (hm : b.w.cell? ⟨0, 0, none⟩ = some (.int .i64 m)) (hk : b.Keeps Tryz.prog laidL tot) : @Sat hookC Tryz.prog b 132 11 := ⟨@mprimX_ok hookA Tryz.prog (rows_ok hookA rfl) mixed g64 laidL tot 132 keyTw trows trows_ok b hk (fun b' hk' hc => sumA (b := b') (hc 0 _ gm_lt hm) hk'), fun _ r hr => by cases hr⟩
theorem sat_tD (hm : b.w.cell? ⟨0, 0, none⟩ = some (.int .i64 m)) (hk : b.Keeps Tryz.prog laidL tot) : @Sat hookD Tryz.prog b 132 11 := ⟨@mprimX_ok hookA Tryz.prog (rows_ok hookA rfl) mixed g64 laidL tot 132 keyTw trows trows_ok b hk (fun b' hk' hc => sumA (b := b') (hc 0 _ gm_lt hm) hk'), fun _ r hr => by cases hr⟩
theorem sat_tM (hm : b.w.cell? ⟨0, 0, none⟩ = some (.int .i64 m)) (hk : b.Keeps Tryz.prog laidL tot) : @Sat hookM Tryz.prog b 132 11 := ⟨@mprimX_ok hookA Tryz.prog (rows_ok hookA rfl) mixed g64 laidL tot 132 keyTw trows trows_ok b hk (fun b' hk' hc => sumA (b := b') (hc 0 _ gm_lt hm) hk'), fun _ r hr => by cases hr⟩
theorem sumB (hm : b.w.cell? ⟨0, 0, none⟩ = some (.int .i64 m)) (hk : b.Keeps Tryz.prog laidL tot) : @SumOk Tryz.prog hookB b :=
  @sumOk_of hookB _ _ (@sums_of hookB _ b sumLB rfl (List.forall_mem_cons.2 ⟨body132, (List.forall_mem_cons.2 ⟨body301, (List.forall_mem_cons.2 ⟨body456, (List.forall_mem_cons.2 ⟨body93, (List.forall_mem_cons.2 ⟨body244, (List.forall_mem_cons.2 ⟨body52, (List.forall_mem_cons.2 ⟨body454, (List.forall_mem_cons.2 ⟨body201, (List.forall_mem_cons.2 ⟨body297, (List.forall_mem_cons.2 ⟨body126, (by intro q h; cases h)⟩)⟩)⟩)⟩)⟩)⟩)⟩)⟩)⟩)⟩) (List.forall_mem_cons.2 ⟨sat_tB hm hk, (List.forall_mem_cons.2 ⟨sat_m0e hm hk, (List.forall_mem_cons.2 ⟨sat_m1e hm hk, (List.forall_mem_cons.2 ⟨(⟨@sortedStr_ok Tryz.prog b 93 9 isItS (sortedAtS b), fun _ r hr => by cases hr⟩ : @Sat hookB Tryz.prog b 93 7), (List.forall_mem_cons.2 ⟨(⟨@sortedInt_ok Tryz.prog b 244 3 isItI (sortedAtI b), fun _ r hr => by cases hr⟩ : @Sat hookB Tryz.prog b 244 8), (List.forall_mem_cons.2 ⟨(⟨@repeatP_ok Tryz.prog b 52 (repeat_at b), fun _ r hr => by cases hr⟩ : @Sat hookB Tryz.prog b 52 9), (List.forall_mem_cons.2 ⟨(⟨indexBits_ok (index_at b), fun _ r hr => by cases hr⟩ : @Sat hookB Tryz.prog b 454 10), (List.forall_mem_cons.2 ⟨@sat_ix b m hookB hm hk, (List.forall_mem_cons.2 ⟨@sat_ixl b m hookB hm hk, (List.forall_mem_cons.2 ⟨@sat_co b m hookB hm hk, (by intro q h; cases h)⟩)⟩)⟩)⟩)⟩)⟩)⟩)⟩)⟩)⟩))
set_option maxRecDepth 100000 in
theorem crows_ok : ∀ r ∈ crows, @RowRunsX hookB Tryz.prog laidL 32 keyTw r := fun r h => (List.mem_append.1 h).elim (fun h => @rowsX_ok hookB _ _ _ _ _ _ cw0_ok r h) (fun h => (List.mem_append.1 h).elim (fun h => @rowsX_ok hookB _ _ _ _ _ _ cw1_ok r h) (fun h => (List.mem_append.1 h).elim (fun h => @rowsX_ok hookB _ _ _ _ _ _ cw2_ok r h) (fun h => (List.mem_append.1 h).elim (fun h => @rowsX_ok hookB _ _ _ _ _ _ cw3_ok r h) (fun h => (List.mem_append.1 h).elim (fun h => @rowsX_ok hookB _ _ _ _ _ _ cw4_ok r h) (fun h => (List.mem_append.1 h).elim (fun h => @rowsX_ok hookB _ _ _ _ _ _ cw5_ok r h) (fun h => (List.mem_append.1 h).elim (fun h => @rowsX_ok hookB _ _ _ _ _ _ cw6_ok r h) (fun h => (List.mem_append.1 h).elim (fun h => @rowsX_ok hookB _ _ _ _ _ _ cw7_ok r h) (fun h => @rowsX_ok hookB _ _ _ _ _ _ cw8_ok r h))))))))
theorem sat_cC (hm : b.w.cell? ⟨0, 0, none⟩ = some (.int .i64 m)) (hk : b.Keeps Tryz.prog laidL tot) : @Sat hookC Tryz.prog b 32 12 := ⟨@mprimX_ok hookB Tryz.prog (rows_ok hookB rfl) mixed g64 laidL tot 32 keyTw crows crows_ok b hk (fun b' hk' hc => sumB (b := b') (hc 0 _ gm_lt hm) hk'), fun _ r hr => by cases hr⟩
theorem sat_cD (hm : b.w.cell? ⟨0, 0, none⟩ = some (.int .i64 m)) (hk : b.Keeps Tryz.prog laidL tot) : @Sat hookD Tryz.prog b 32 12 := ⟨@mprimX_ok hookB Tryz.prog (rows_ok hookB rfl) mixed g64 laidL tot 32 keyTw crows crows_ok b hk (fun b' hk' hc => sumB (b := b') (hc 0 _ gm_lt hm) hk'), fun _ r hr => by cases hr⟩
theorem sat_cM (hm : b.w.cell? ⟨0, 0, none⟩ = some (.int .i64 m)) (hk : b.Keeps Tryz.prog laidL tot) : @Sat hookM Tryz.prog b 32 12 := ⟨@mprimX_ok hookB Tryz.prog (rows_ok hookB rfl) mixed g64 laidL tot 32 keyTw crows crows_ok b hk (fun b' hk' hc => sumB (b := b') (hc 0 _ gm_lt hm) hk'), fun _ r hr => by cases hr⟩
theorem sumC (hm : b.w.cell? ⟨0, 0, none⟩ = some (.int .i64 m)) (hk : b.Keeps Tryz.prog laidL tot) : @SumOk Tryz.prog hookC b :=
  @sumOk_of hookC _ _ (@sums_of hookC _ b sumLC rfl (List.forall_mem_cons.2 ⟨body32, (List.forall_mem_cons.2 ⟨body132, (List.forall_mem_cons.2 ⟨body301, (List.forall_mem_cons.2 ⟨body456, (List.forall_mem_cons.2 ⟨body93, (List.forall_mem_cons.2 ⟨body244, (List.forall_mem_cons.2 ⟨body52, (List.forall_mem_cons.2 ⟨body454, (List.forall_mem_cons.2 ⟨body201, (List.forall_mem_cons.2 ⟨body297, (List.forall_mem_cons.2 ⟨body126, (by intro q h; cases h)⟩)⟩)⟩)⟩)⟩)⟩)⟩)⟩)⟩)⟩)⟩) (List.forall_mem_cons.2 ⟨sat_cC hm hk, (List.forall_mem_cons.2 ⟨sat_tC hm hk, (List.forall_mem_cons.2 ⟨sat_m0c hm hk, (List.forall_mem_cons.2 ⟨sat_m1c hm hk, (List.forall_mem_cons.2 ⟨(⟨@sortedStr_ok Tryz.prog b 93 9 isItS (sortedAtS b), fun _ r hr => by cases hr⟩ : @Sat hookC Tryz.prog b 93 7), (List.forall_mem_cons.2 ⟨(⟨@sortedInt_ok Tryz.prog b 244 3 isItI (sortedAtI b), fun _ r hr => by cases hr⟩ : @Sat hookC Tryz.prog b 244 8), (List.forall_mem_cons.2 ⟨(⟨@repeatP_ok Tryz.prog b 52 (repeat_at b), fun _ r hr => by cases hr⟩ : @Sat hookC Tryz.prog b 52 9), (List.forall_mem_cons.2 ⟨(⟨indexBits_ok (index_at b), fun _ r hr => by cases hr⟩ : @Sat hookC Tryz.prog b 454 10), (List.forall_mem_cons.2 ⟨@sat_ix b m hookC hm hk, (List.forall_mem_cons.2 ⟨@sat_ixl b m hookC hm hk, (List.forall_mem_cons.2 ⟨@sat_co b m hookC hm hk, (by intro q h; cases h)⟩)⟩)⟩)⟩)⟩)⟩)⟩)⟩)⟩)⟩)⟩))
set_option maxRecDepth 100000 in
theorem nrows_ok : ∀ r ∈ nrows, @RowRunsX hookC Tryz.prog laidL 11 keyTw r := fun r h => (List.mem_append.1 h).elim (fun h => @rowsX_ok hookC _ _ _ _ _ _ nw0_ok r h) (fun h => @rowsX_ok hookC _ _ _ _ _ _ nw1_ok r h)
set_option maxRecDepth 100000 in
theorem drows_ok : ∀ r ∈ drows, @RowRunsX hookC Tryz.prog laidL 12 keyTw r := fun r h => (List.mem_append.1 h).elim (fun h => @rowsX_ok hookC _ _ _ _ _ _ dw0_ok r h) (fun h => (List.mem_append.1 h).elim (fun h => @rowsX_ok hookC _ _ _ _ _ _ dw1_ok r h) (fun h => (List.mem_append.1 h).elim (fun h => @rowsX_ok hookC _ _ _ _ _ _ dw2_ok r h) (fun h => (List.mem_append.1 h).elim (fun h => @rowsX_ok hookC _ _ _ _ _ _ dw3_ok r h) (fun h => (List.mem_append.1 h).elim (fun h => @rowsX_ok hookC _ _ _ _ _ _ dw4_ok r h) (fun h => (List.mem_append.1 h).elim (fun h => @rowsX_ok hookC _ _ _ _ _ _ dw5_ok r h) (fun h => (List.mem_append.1 h).elim (fun h => @rowsX_ok hookC _ _ _ _ _ _ dw6_ok r h) (fun h => (List.mem_append.1 h).elim (fun h => @rowsX_ok hookC _ _ _ _ _ _ dw7_ok r h) (fun h => (List.mem_append.1 h).elim (fun h => @rowsX_ok hookC _ _ _ _ _ _ dw8_ok r h) (fun h => (List.mem_append.1 h).elim (fun h => @rowsX_ok hookC _ _ _ _ _ _ dw9_ok r h) (fun h => (List.mem_append.1 h).elim (fun h => @rowsX_ok hookC _ _ _ _ _ _ dw10_ok r h) (fun h => (List.mem_append.1 h).elim (fun h => @rowsX_ok hookC _ _ _ _ _ _ dw11_ok r h) (fun h => (List.mem_append.1 h).elim (fun h => @rowsX_ok hookC _ _ _ _ _ _ dw12_ok r h) (fun h => (List.mem_append.1 h).elim (fun h => @rowsX_ok hookC _ _ _ _ _ _ dw13_ok r h) (fun h => (List.mem_append.1 h).elim (fun h => @rowsX_ok hookC _ _ _ _ _ _ dw14_ok r h) (fun h => (List.mem_append.1 h).elim (fun h => @rowsX_ok hookC _ _ _ _ _ _ dw15_ok r h) (fun h => (List.mem_append.1 h).elim (fun h => @rowsX_ok hookC _ _ _ _ _ _ dw16_ok r h) (fun h => (List.mem_append.1 h).elim (fun h => @rowsX_ok hookC _ _ _ _ _ _ dw17_ok r h) (fun h => (List.mem_append.1 h).elim (fun h => @rowsX_ok hookC _ _ _ _ _ _ dw18_ok r h) (fun h => (List.mem_append.1 h).elim (fun h => @rowsX_ok hookC _ _ _ _ _ _ dw19_ok r h) (fun h => (List.mem_append.1 h).elim (fun h => @rowsX_ok hookC _ _ _ _ _ _ dw20_ok r h) (fun h => (List.mem_append.1 h).elim (fun h => @rowsX_ok hookC _ _ _ _ _ _ dw21_ok r h) (fun h => (List.mem_append.1 h).elim (fun h => @rowsX_ok hookC _ _ _ _ _ _ dw22_ok r h) (fun h => (List.mem_append.1 h).elim (fun h => @rowsX_ok hookC _ _ _ _ _ _ dw23_ok r h) (fun h => (List.mem_append.1 h).elim (fun h => @rowsX_ok hookC _ _ _ _ _ _ dw24_ok r h) (fun h => (List.mem_append.1 h).elim (fun h => @rowsX_ok hookC _ _ _ _ _ _ dw25_ok r h) (fun h => (List.mem_append.1 h).elim (fun h => @rowsX_ok hookC _ _ _ _ _ _ dw26_ok r h) (fun h => (List.mem_append.1 h).elim (fun h => @rowsX_ok hookC _ _ _ _ _ _ dw27_ok r h) (fun h => (List.mem_append.1 h).elim (fun h => @rowsX_ok hookC _ _ _ _ _ _ dw28_ok r h) (fun h => (List.mem_append.1 h).elim (fun h => @rowsX_ok hookC _ _ _ _ _ _ dw29_ok r h) (fun h => (List.mem_append.1 h).elim (fun h => @rowsX_ok hookC _ _ _ _ _ _ dw30_ok r h) (fun h => (List.mem_append.1 h).elim (fun h => @rowsX_ok hookC _ _ _ _ _ _ dw31_ok r h) (fun h => (List.mem_append.1 h).elim (fun h => @rowsX_ok hookC _ _ _ _ _ _ dw32_ok r h) (fun h => (List.mem_append.1 h).elim (fun h => @rowsX_ok hookC _ _ _ _ _ _ dw33_ok r h) (fun h => (List.mem_append.1 h).elim (fun h => @rowsX_ok hookC _ _ _ _ _ _ dw34_ok r h) (fun h => (List.mem_append.1 h).elim (fun h => @rowsX_ok hookC _ _ _ _ _ _ dw35_ok r h) (fun h => (List.mem_append.1 h).elim (fun h => @rowsX_ok hookC _ _ _ _ _ _ dw36_ok r h) (fun h => (List.mem_append.1 h).elim (fun h => @rowsX_ok hookC _ _ _ _ _ _ dw37_ok r h) (fun h => (List.mem_append.1 h).elim (fun h => @rowsX_ok hookC _ _ _ _ _ _ dw38_ok r h) (fun h => (List.mem_append.1 h).elim (fun h => @rowsX_ok hookC _ _ _ _ _ _ dw39_ok r h) (fun h => (List.mem_append.1 h).elim (fun h => @rowsX_ok hookC _ _ _ _ _ _ dw40_ok r h) (fun h => (List.mem_append.1 h).elim (fun h => @rowsX_ok hookC _ _ _ _ _ _ dw41_ok r h) (fun h => (List.mem_append.1 h).elim (fun h => @rowsX_ok hookC _ _ _ _ _ _ dw42_ok r h) (fun h => (List.mem_append.1 h).elim (fun h => @rowsX_ok hookC _ _ _ _ _ _ dw43_ok r h) (fun h => (List.mem_append.1 h).elim (fun h => @rowsX_ok hookC _ _ _ _ _ _ dw44_ok r h) (fun h => (List.mem_append.1 h).elim (fun h => @rowsX_ok hookC _ _ _ _ _ _ dw45_ok r h) (fun h => (List.mem_append.1 h).elim (fun h => @rowsX_ok hookC _ _ _ _ _ _ dw46_ok r h) (fun h => (List.mem_append.1 h).elim (fun h => @rowsX_ok hookC _ _ _ _ _ _ dw47_ok r h) (fun h => (List.mem_append.1 h).elim (fun h => @rowsX_ok hookC _ _ _ _ _ _ dw48_ok r h) (fun h => (List.mem_append.1 h).elim (fun h => @rowsX_ok hookC _ _ _ _ _ _ dw49_ok r h) (fun h => (List.mem_append.1 h).elim (fun h => @rowsX_ok hookC _ _ _ _ _ _ dw50_ok r h) (fun h => (List.mem_append.1 h).elim (fun h => @rowsX_ok hookC _ _ _ _ _ _ dw51_ok r h) (fun h => (List.mem_append.1 h).elim (fun h => @rowsX_ok hookC _ _ _ _ _ _ dw52_ok r h) (fun h => (List.mem_append.1 h).elim (fun h => @rowsX_ok hookC _ _ _ _ _ _ dw53_ok r h) (fun h => (List.mem_append.1 h).elim (fun h => @rowsX_ok hookC _ _ _ _ _ _ dw54_ok r h) (fun h => (List.mem_append.1 h).elim (fun h => @rowsX_ok hookC _ _ _ _ _ _ dw55_ok r h) (fun h => (List.mem_append.1 h).elim (fun h => @rowsX_ok hookC _ _ _ _ _ _ dw56_ok r h) (fun h => (List.mem_append.1 h).elim (fun h => @rowsX_ok hookC _ _ _ _ _ _ dw57_ok r h) (fun h => (List.mem_append.1 h).elim (fun h => @rowsX_ok hookC _ _ _ _ _ _ dw58_ok r h) (fun h => (List.mem_append.1 h).elim (fun h => @rowsX_ok hookC _ _ _ _ _ _ dw59_ok r h) (fun h => (List.mem_append.1 h).elim (fun h => @rowsX_ok hookC _ _ _ _ _ _ dw60_ok r h) (fun h => (List.mem_append.1 h).elim (fun h => @rowsX_ok hookC _ _ _ _ _ _ dw61_ok r h) (fun h => (List.mem_append.1 h).elim (fun h => @rowsX_ok hookC _ _ _ _ _ _ dw62_ok r h) (fun h => (List.mem_append.1 h).elim (fun h => @rowsX_ok hookC _ _ _ _ _ _ dw63_ok r h) (fun h => (List.mem_append.1 h).elim (fun h => @rowsX_ok hookC _ _ _ _ _ _ dw64_ok r h) (fun h => (List.mem_append.1 h).elim (fun h => @rowsX_ok hookC _ _ _ _ _ _ dw65_ok r h) (fun h => (List.mem_append.1 h).elim (fun h => @rowsX_ok hookC _ _ _ _ _ _ dw66_ok r h) (fun h => (List.mem_append.1 h).elim (fun h => @rowsX_ok hookC _ _ _ _ _ _ dw67_ok r h) (fun h => (List.mem_append.1 h).elim (fun h => @rowsX_ok hookC _ _ _ _ _ _ dw68_ok r h) (fun h => (List.mem_append.1 h).elim (fun h => @rowsX_ok hookC _ _ _ _ _ _ dw69_ok r h) (fun h => (List.mem_append.1 h).elim (fun h => @rowsX_ok hookC _ _ _ _ _ _ dw70_ok r h) (fun h => (List.mem_append.1 h).elim (fun h => @rowsX_ok hookC _ _ _ _ _ _ dw71_ok r h) (fun h => (List.mem_append.1 h).elim (fun h => @rowsX_ok hookC _ _ _ _ _ _ dw72_ok r h) (fun h => (List.mem_append.1 h).elim (fun h => @rowsX_ok hookC _ _ _ _ _ _ dw73_ok r h) (fun h => @rowsX_ok hookC _ _ _ _ _ _ dw74_ok r h))))))))))))))))))))))))))))))))))))))))))))))))))))))))))))))))))))))))))
theorem sat_nD (hm : b.w.cell? ⟨0, 0, none⟩ = some (.int .i64 m)) (hk : b.Keeps Tryz.prog laidL tot) : @Sat hookD Tryz.prog b 11 13 := ⟨@mprimX_ok hookC Tryz.prog (rows_ok hookC rfl) mixed g64 laidL tot 11 keyTw nrows nrows_ok b hk (fun b' hk' hc => sumC (b := b') (hc 0 _ gm_lt hm) hk'), fun _ r hr => by cases hr⟩
theorem sat_dD (hm : b.w.cell? ⟨0, 0, none⟩ = some (.int .i64 m)) (hk : b.Keeps Tryz.prog laidL tot) : @Sat hookD Tryz.prog b 12 14 := ⟨@mprimX_ok hookC Tryz.prog (rows_ok hookC rfl) mixed g64 laidL tot 12 keyTw drows drows_ok b hk (fun b' hk' hc => sumC (b := b') (hc 0 _ gm_lt hm) hk'), fun _ r hr => by cases hr⟩
theorem sat_nM (hm : b.w.cell? ⟨0, 0, none⟩ = some (.int .i64 m)) (hk : b.Keeps Tryz.prog laidL tot) : @Sat hookM Tryz.prog b 11 13 := ⟨@mprimX_ok hookC Tryz.prog (rows_ok hookC rfl) mixed g64 laidL tot 11 keyTw nrows nrows_ok b hk (fun b' hk' hc => sumC (b := b') (hc 0 _ gm_lt hm) hk'), fun _ r hr => by cases hr⟩
theorem sat_dM (hm : b.w.cell? ⟨0, 0, none⟩ = some (.int .i64 m)) (hk : b.Keeps Tryz.prog laidL tot) : @Sat hookM Tryz.prog b 12 14 := ⟨@mprimX_ok hookC Tryz.prog (rows_ok hookC rfl) mixed g64 laidL tot 12 keyTw drows drows_ok b hk (fun b' hk' hc => sumC (b := b') (hc 0 _ gm_lt hm) hk'), fun _ r hr => by cases hr⟩
theorem sumD (hm : b.w.cell? ⟨0, 0, none⟩ = some (.int .i64 m)) (hk : b.Keeps Tryz.prog laidL tot) : @SumOk Tryz.prog hookD b :=
  @sumOk_of hookD _ _ (@sums_of hookD _ b sumLD rfl (List.forall_mem_cons.2 ⟨body11, (List.forall_mem_cons.2 ⟨body12, (List.forall_mem_cons.2 ⟨body32, (List.forall_mem_cons.2 ⟨body132, (List.forall_mem_cons.2 ⟨body301, (List.forall_mem_cons.2 ⟨body456, (List.forall_mem_cons.2 ⟨body93, (List.forall_mem_cons.2 ⟨body244, (List.forall_mem_cons.2 ⟨body52, (List.forall_mem_cons.2 ⟨body454, (List.forall_mem_cons.2 ⟨body201, (List.forall_mem_cons.2 ⟨body297, (List.forall_mem_cons.2 ⟨body126, (by intro q h; cases h)⟩)⟩)⟩)⟩)⟩)⟩)⟩)⟩)⟩)⟩)⟩)⟩)⟩) (List.forall_mem_cons.2 ⟨sat_nD hm hk, (List.forall_mem_cons.2 ⟨sat_dD hm hk, (List.forall_mem_cons.2 ⟨sat_cD hm hk, (List.forall_mem_cons.2 ⟨sat_tD hm hk, (List.forall_mem_cons.2 ⟨sat_m0d hm hk, (List.forall_mem_cons.2 ⟨sat_m1d hm hk, (List.forall_mem_cons.2 ⟨(⟨@sortedStr_ok Tryz.prog b 93 9 isItS (sortedAtS b), fun _ r hr => by cases hr⟩ : @Sat hookD Tryz.prog b 93 7), (List.forall_mem_cons.2 ⟨(⟨@sortedInt_ok Tryz.prog b 244 3 isItI (sortedAtI b), fun _ r hr => by cases hr⟩ : @Sat hookD Tryz.prog b 244 8), (List.forall_mem_cons.2 ⟨(⟨@repeatP_ok Tryz.prog b 52 (repeat_at b), fun _ r hr => by cases hr⟩ : @Sat hookD Tryz.prog b 52 9), (List.forall_mem_cons.2 ⟨(⟨indexBits_ok (index_at b), fun _ r hr => by cases hr⟩ : @Sat hookD Tryz.prog b 454 10), (List.forall_mem_cons.2 ⟨@sat_ix b m hookD hm hk, (List.forall_mem_cons.2 ⟨@sat_ixl b m hookD hm hk, (List.forall_mem_cons.2 ⟨@sat_co b m hookD hm hk, (by intro q h; cases h)⟩)⟩)⟩)⟩)⟩)⟩)⟩)⟩)⟩)⟩)⟩)⟩)⟩))
/-- 'awake' answers true, in whatever world -/
theorem awake_ok (hm : W.cell? ⟨0, 0, none⟩ = some (.int .i64 m)) (hL : LaidOk Tryz.prog laidL tot W) : Calls Tryz.prog 6 #[] W fun e w' => e = .returned (.bool true) ∧ Grew W w' :=
  @truth_of hookD _ (rows_ok hookD rfl) mixed g64 laidL tot 6 [] [] W (sumD (b := Base.at W _) hm (.of_at hL)) hL .nil _ awake_run
theorem sat_aw [Hook] (hm : b.w.cell? ⟨0, 0, none⟩ = some (.int .i64 m)) (hk : b.Keeps Tryz.prog laidL tot) : Sat Tryz.prog b 6 3 := fun _ hs ho => awake_ok (cell_keeps hk hm gm_lt ho) (hk.world hs ho)
theorem sumM (hm : b.w.cell? ⟨0, 0, none⟩ = some (.int .i64 m)) (hk : b.Keeps Tryz.prog laidL tot) : @SumOk Tryz.prog hookM b :=
  @sumOk_of hookM _ _ (@sums_of hookM _ b sumLM rfl (List.forall_mem_cons.2 ⟨body6, (List.forall_mem_cons.2 ⟨body11, (List.forall_mem_cons.2 ⟨body12, (List.forall_mem_cons.2 ⟨body32, (List.forall_mem_cons.2 ⟨body132, (List.forall_mem_cons.2 ⟨body301, (List.forall_mem_cons.2 ⟨body456, (List.forall_mem_cons.2 ⟨body93, (List.forall_mem_cons.2 ⟨body244, (List.forall_mem_cons.2 ⟨body52, (List.forall_mem_cons.2 ⟨body454, (List.forall_mem_cons.2 ⟨body201, (List.forall_mem_cons.2 ⟨body297, (List.forall_mem_cons.2 ⟨body126, (by intro q h; cases h)⟩)⟩)⟩)⟩)⟩)⟩)⟩)⟩)⟩)⟩)⟩)⟩)⟩)⟩) (List.forall_mem_cons.2 ⟨@sat_aw b m hookM hm hk, (List.forall_mem_cons.2 ⟨sat_nM hm hk, (List.forall_mem_cons.2 ⟨sat_dM hm hk, (List.forall_mem_cons.2 ⟨sat_cM hm hk, (List.forall_mem_cons.2 ⟨sat_tM hm hk, (List.forall_mem_cons.2 ⟨sat_m0b hm hk, (List.forall_mem_cons.2 ⟨sat_m1b hm hk, (List.forall_mem_cons.2 ⟨(⟨@sortedStr_ok Tryz.prog b 93 9 isItS (sortedAtS b), fun _ r hr => by cases hr⟩ : @Sat hookM Tryz.prog b 93 7), (List.forall_mem_cons.2 ⟨(⟨@sortedInt_ok Tryz.prog b 244 3 isItI (sortedAtI b), fun _ r hr => by cases hr⟩ : @Sat hookM Tryz.prog b 244 8), (List.forall_mem_cons.2 ⟨(⟨@repeatP_ok Tryz.prog b 52 (repeat_at b), fun _ r hr => by cases hr⟩ : @Sat hookM Tryz.prog b 52 9), (List.forall_mem_cons.2 ⟨(⟨indexBits_ok (index_at b), fun _ r hr => by cases hr⟩ : @Sat hookM Tryz.prog b 454 10), (List.forall_mem_cons.2 ⟨@sat_ix b m hookM hm hk, (List.forall_mem_cons.2 ⟨@sat_ixl b m hookM hm hk, (List.forall_mem_cons.2 ⟨@sat_co b m hookM hm hk, (by intro q h; cases h)⟩)⟩)⟩)⟩)⟩)⟩)⟩)⟩)⟩)⟩)⟩)⟩)⟩)⟩))
/-- the law answers true, in whatever world -/
theorem law_ok (hm : W.cell? ⟨0, 0, none⟩ = some (.int .i64 m)) (hL : LaidOk Tryz.prog laidL tot W) (x1 : Int) (x2 : Int) : Calls Tryz.prog 4 ⟨[.int .i64 x1, .int .i64 x2]⟩ W fun e w' => e = .returned (.bool true) ∧ Grew W w' := by
  have key : ∀ av : List AV, RelL (startRho tot Tryz.prog.globals.size) av [.int .i64 x1, .int .i64 x2] → @runF Tryz.prog hookM isTrue 500000 (startSt Tryz.prog laidL 4 av) = true → Calls Tryz.prog 4 ⟨[.int .i64 x1, .int .i64 x2]⟩ W fun e w' => e = .returned (.bool true) ∧ Grew W w' :=
    fun av hr hrun => @truth_of hookM _ (rows_ok hookM rfl) mixed g64 laidL tot 4 av [.int .i64 x1, .int .i64 x2] W (sumM (b := Base.at W _) hm (.of_at hL)) hL hr _ hrun
  obtain ⟨j1, l1, h1⟩ := red_and 3 (by decide) x1
  obtain rfl | rfl | rfl | rfl : j1 = 0 ∨ j1 = 1 ∨ j1 = 2 ∨ j1 = 3 := by omega
  · skip
    obtain ⟨j2, l2, h2⟩ := red_rem 2 (by decide) x2
    obtain rfl | rfl : j2 = 0 ∨ j2 = 1 := by omega
    · skip
      exact key [.red .i64 true 3 0, .red .i64 false 2 0] (.cons _ _ _ _ (.red _ _ _ _ _ h1) (.cons _ _ _ _ (.red _ _ _ _ _ h2) .nil)) main_run_0_0
    · skip
      exact key [.red .i64 true 3 0, .red .i64 false 2 1] (.cons _ _ _ _ (.red _ _ _ _ _ h1) (.cons _ _ _ _ (.red _ _ _ _ _ h2) .nil)) main_run_0_1
  · skip
    obtain ⟨j2, l2, h2⟩ := red_rem 3 (by decide) x2
    obtain rfl | rfl | rfl : j2 = 0 ∨ j2 = 1 ∨ j2 = 2 := by omega
    · skip
      exact key [.red .i64 true 3 1, .red .i64 false 3 0] (.cons _ _ _ _ (.red _ _ _ _ _ h1) (.cons _ _ _ _ (.red _ _ _ _ _ h2) .nil)) main_run_1_0
    · skip
      exact key [.red .i64 true 3 1, .red .i64 false 3 1] (.cons _ _ _ _ (.red _ _ _ _ _ h1) (.cons _ _ _ _ (.red _ _ _ _ _ h2) .nil)) main_run_1_1
    · skip
      exact key [.red .i64 true 3 1, .red .i64 false 3 2] (.cons _ _ _ _ (.red _ _ _ _ _ h1) (.cons _ _ _ _ (.red _ _ _ _ _ h2) .nil)) main_run_1_2
  · skip
    obtain ⟨j2, l2, h2⟩ := red_rem 4 (by decide) x2
    obtain rfl | rfl | rfl | rfl : j2 = 0 ∨ j2 = 1 ∨ j2 = 2 ∨ j2 = 3 := by omega
    · skip
      exact key [.red .i64 true 3 2, .red .i64 false 4 0] (.cons _ _ _ _ (.red _ _ _ _ _ h1) (.cons _ _ _ _ (.red _ _ _ _ _ h2) .nil)) main_run_2_0
    · skip
      exact key [.red .i64 true 3 2, .red .i64 false 4 1] (.cons _ _ _ _ (.red _ _ _ _ _ h1) (.cons _ _ _ _ (.red _ _ _ _ _ h2) .nil)) main_run_2_1
    · skip
      exact key [.red .i64 true 3 2, .red .i64 false 4 2] (.cons _ _ _ _ (.red _ _ _ _ _ h1) (.cons _ _ _ _ (.red _ _ _ _ _ h2) .nil)) main_run_2_2
    · skip
      exact key [.red .i64 true 3 2, .red .i64 false 4 3] (.cons _ _ _ _ (.red _ _ _ _ _ h1) (.cons _ _ _ _ (.red _ _ _ _ _ h2) .nil)) main_run_2_3
  · skip
    obtain ⟨j2, l2, h2⟩ := red_rem 5 (by decide) x2
    obtain rfl | rfl | rfl | rfl | rfl : j2 = 0 ∨ j2 = 1 ∨ j2 = 2 ∨ j2 = 3 ∨ j2 = 4 := by omega
    · skip
      exact key [.red .i64 true 3 3, .red .i64 false 5 0] (.cons _ _ _ _ (.red _ _ _ _ _ h1) (.cons _ _ _ _ (.red _ _ _ _ _ h2) .nil)) main_run_3_0
    · skip
      exact key [.red .i64 true 3 3, .red .i64 false 5 1] (.cons _ _ _ _ (.red _ _ _ _ _ h1) (.cons _ _ _ _ (.red _ _ _ _ _ h2) .nil)) main_run_3_1
    · skip
      exact key [.red .i64 true 3 3, .red .i64 false 5 2] (.cons _ _ _ _ (.red _ _ _ _ _ h1) (.cons _ _ _ _ (.red _ _ _ _ _ h2) .nil)) main_run_3_2
    · skip
      exact key [.red .i64 true 3 3, .red .i64 false 5 3] (.cons _ _ _ _ (.red _ _ _ _ _ h1) (.cons _ _ _ _ (.red _ _ _ _ _ h2) .nil)) main_run_3_3
    · skip
      exact key [.red .i64 true 3 3, .red .i64 false 5 4] (.cons _ _ _ _ (.red _ _ _ _ _ h1) (.cons _ _ _ _ (.red _ _ _ _ _ h2) .nil)) main_run_3_4
end
theorem own : ownKnob Tryz.prog.godebug = none := by kernel_rfl
theorem gSpace : Tryz.prog.globalNamed "strings.asciiSpace" = some 1 := by kernel_rfl
theorem tSpace : (Tryz.prog.globals[1]?).map (·.type) = some 573 := by kernel_rfl
theorem lSpace : spaceZ.length = 256 := by kernel_rfl
theorem dSpace : (Rows.laid_strings_asciiSpace : DataW Unit) = .agg (spaceZ.map fun z => .lit (.int .u8 z)) := by kernel_rfl
theorem laid_of {W : World} (hs : Tryz.prog.globals.size ≤ W.heap.size) (h : laidMetH Tryz.prog Rows.towerCyclesRow.laid W) : LaidOk Tryz.prog laidL tot W := by
  rw [MakeChecks.laidMetH_plain _ _ _ (by kernel_rfl)] at h
  obtain ⟨ps, ⟨_, _, _, _, _, _, _, _, _, _, ⟨_, _, _, _, _, _, _, _, _, _, ⟨g, t, cs, fuel, p, q, hg, ht, hv, hd, _, _⟩, _⟩, _⟩, _, _⟩ := h
  obtain rfl := Option.some.inj (gSpace.symm.trans hg)
  obtain rfl := Option.some.inj (tSpace.symm.trans ht)
  rw [dSpace] at hd
  have hT := table_of gSpace hv Tryz.underlying573 Tryz.underlying5 (by kernel_rfl) (by kernel_rfl) lSpace hd
  refine ⟨hs, fun g o _ hl N ρ => ?_⟩
  by_cases e : g = 1
  · subst e
    obtain rfl : AObj.fixed 0 (spaceZ.map fun z => AV.int .u8 z) = o := Option.some.inj hl
    exact hT N ρ
  · have hne : (g == 1) = false := by simpa using e
    simp only [laidL, List.lookup, hne] at hl
    cases hl
theorem heap_size {W : World} (h : W.ShapedOpen Tryz.prog) : Tryz.prog.globals.size ≤ W.heap.size := by
  obtain ⟨o, _, ho, _⟩ := h.2 _ (Nat.le_refl _) (of_decide_eq_true (by kernel_rfl))
  exact Nat.le_of_lt (Array.getElem?_eq_some_iff.1 ho).1
set_option maxRecDepth 100000 in
theorem lifted (os : Os) (started : os.Started) (H : Type) (enc : TypeId × Value → H) :
    ReturnsInHanded {} Tryz.checked os 4 .any (fun w args => (Rows.towerCyclesSpec.pre enc Tryz.prog Tryz.f4 Rows.towerCyclesRow.domain false w args ∧ laidMetH Tryz.prog Rows.towerCyclesRow.laid w) ∧ sizedMet enc Tryz.prog Tryz.f4 (OpenSpec.ofChange Rows.towerCyclesSpec) false w args)
      (Rows.towerCyclesSpec.post enc Tryz.prog Tryz.f4 false true false false) := by
  refine handed_of (C := Tryz.checked) (X := fun w _ => laidMetH Tryz.prog Rows.towerCyclesRow.laid w) (fun _ _ _ hh h => h.of_heap hh) own started (by kernel_rfl) Tryz.func4
    (ChangeSpec.witness_shaped (enc := enc) (C := Tryz.checked) (os := os) (X := fun w _ => laidMetH Tryz.prog Rows.towerCyclesRow.laid w) false (World.laidAll Tryz.prog os Rows.towerCyclesRow.laid) #[.int .i64 0, .int .i64 0] 8 (World.laidAll_os _ _ _)
      (World.shaped_of_ZipB (by kernel_rfl) (by kernel_rfl)) (by kernel_rfl) (by kernel_rfl) (by kernel_rfl)
      (by rw [MakeChecks.laidMetH_plain _ _ _ (by kernel_rfl)]; exact laidMet_laidAll _ (by kernel_rfl) (by kernel_rfl))) ?_
  intro W base args ds gs before hval0 hW hL hsh
  have hW' := hW
  obtain ⟨p, q, hA0, hV, rfl, _, _⟩ := hW
  have hA : DataW.TrodAll enc Tryz.prog W 0 (fun _ => true) true Tryz.f4.params.toList args.toList ds p := hA0
  rw [Tryz.params4] at hA
  obtain ⟨u1, u2, d1, d2, p1, p2, rfl, rfl, rfl, hd1, hd2⟩ := trodAll_two hA
  obtain ⟨x1, rfl, rfl, rfl, wf1⟩ := open_int Tryz.underlying3 (hval0 0 _ _ (by rw [← Array.getElem?_toList, Tryz.params4]; rfl) rfl) hd1
  obtain ⟨x2, rfl, rfl, rfl, wf2⟩ := open_int Tryz.underlying3 (hval0 1 _ _ (by rw [← Array.getElem?_toList, Tryz.params4]; rfl) rfl) hd2
  obtain ⟨rfl, rfl⟩ := trodVars_none hV
  obtain ⟨m, hm⟩ := Tryz.laysM143.s1_3 W hsh
  refine (law_ok hm (laid_of (heap_size hsh) hL) x1 x2).mono fun e W' ⟨he, hg⟩ => ?_
  subst he
  exact ⟨_, rfl, post_of_grew hW' (fun _ _ _ => trodAll_mk1 (shut_bool Tryz.underlying4 _)) (fun _ => by rw [Tryz.params4]; exact (trodAll_cons_mk (shut_int Tryz.underlying3 wf1) (trodAll_cons_mk (shut_int Tryz.underlying3 wf2) trodAll_mk0))) (fun _ => rfl) hg⟩
end Go.Proofs.YtbblahphgmkgnaaGreatDoor
