/- TowerLinks answers true, and nothing that was there is turned: the contract, out of the evaluator's runs, and its lift to the row's form. Conditions: those of the given row (the listed variables read as listed). -/
import Derived.Test.YtooelpaaidnhiaaGreatDoorTnRA
import Derived.Test.YtooelpaaidnhiaaGreatDoorTnMT
import Derived.Test.YtooelpaaidnhiaaGreatDoorTnYX0
import Derived.Test.YtooelpaaidnhiaaGreatDoorTnYX1
import Derived.Test.YtooelpaaidnhiaaGreatDoorTnTX0
import Derived.Test.YtooelpaaidnhiaaGreatDoorTnCX0
import Derived.Test.YtooelpaaidnhiaaGreatDoorTnCX1
import Derived.Test.YtooelpaaidnhiaaGreatDoorTnCX2
import Derived.Test.YtooelpaaidnhiaaGreatDoorTnNX0
import Derived.Test.YtooelpaaidnhiaaGreatDoorTnDX0
import Derived.Test.YtooelpaaidnhiaaGreatDoorTnDX1
import Derived.Test.YtooelpaaidnhiaaGreatDoorTnDX2
import Derived.Test.YtooelpaaidnhiaaGreatDoorTnDX3
import Derived.Test.YtooelpaaidnhiaaGreatDoorTnDX4
import Derived.Test.YtooelpaaidnhiaaGreatDoorTnDX5
import Derived.Test.YtooelpaaidnhiaaGreatDoorTnDX6
import Derived.Test.YtooelpaaidnhiaaGreatDoorTnDX7
import Derived.Test.YtooelpaaidnhiaaGreatDoorTnDX8
import Derived.Test.YtooelpaaidnhiaaGreatDoorTnDX9
import Derived.Test.YtooelpaaidnhiaaGreatDoorTnDX10
import Derived.Test.YtooelpaaidnhiaaGreatDoorTnDX11
import Derived.Test.YtooelpaaidnhiaaGreatDoorTnDX12
import Derived.Test.YtooelpaaidnhiaaGreatDoorTnDX13
import Derived.Test.YtooelpaaidnhiaaGreatDoorTnDX14
import Derived.Test.YtooelpaaidnhiaaGreatDoorTnDX15
import Derived.Test.YtooelpaaidnhiaaGreatDoorTnDX16
import Derived.Test.YtooelpaaidnhiaaGreatDoorTnDX17
import Derived.Test.YtooelpaaidnhiaaGreatDoorTnDX18
import Derived.Test.YtooelpaaidnhiaaGreatDoorTnUX0
import Derived.Test.YtooelpaaidnhiaaGreatDoorTnRM0
import Derived.Test.YtooelpaaidnhiaaGreatDoorTnRM1
import Derived.Test.YtooelpaaidnhiaaGreatDoorTnRM2
import Derived.Test.YtooelpaaidnhiaaGreatDoorTnRM3
import Derived.Test.YtooelpaaidnhiaaGreatDoorTnRM4
import Derived.Test.YtooelpaaidnhiaaGreatDoorRows
import Derived.SevenTiedAt
import Derived.Stop.Joined
import Derived.OpenShut
namespace Go.Proofs.YtooelpaaidnhiaaGreatDoor
open Go.ChangeShapes Go.WideShapes Go.ChangeAt Go.RowKit Go.VM
theorem mixed : Tryz.prog.follows .mixedOrders = true := by kernel_rfl
theorem g64 : Tryz.prog.globals.size ≤ 64 := by decide +kernel
theorem row474 : Extern.findNext Tryz.f474 = none ∧ Extern.find Tryz.f474 = some Extern.BytealgIndexByte.indexByte := ⟨by kernel_rfl, by kernel_rfl⟩
theorem vm474 : vmRow 4 Tryz.f474 = some Extern.BytealgIndexByte.indexByte := rfl
theorem row253 : Extern.findNext Tryz.f253 = none ∧ Extern.find Tryz.f253 = some (Extern.BytealgMakeNoZero.makeNoZero Tryz.f253.params Tryz.f253.resultTypes) := ⟨by kernel_rfl, by kernel_rfl⟩
theorem vm253 : vmRow 5 Tryz.f253 = some (Extern.BytealgMakeNoZero.makeNoZero Tryz.f253.params Tryz.f253.resultTypes) := rfl
theorem row585 : Extern.findNext Tryz.f585 = none ∧ Extern.find Tryz.f585 = some Extern.MathFloatBits.float64bits := ⟨by kernel_rfl, by kernel_rfl⟩
theorem vm585 : vmRow 1 Tryz.f585 = some Extern.MathFloatBits.float64bits := rfl
theorem row564 : Extern.findNext Tryz.f564 = none ∧ Extern.find Tryz.f564 = some Extern.MathFloatBits.float64frombits := ⟨by kernel_rfl, by kernel_rfl⟩
theorem vm564 : vmRow 2 Tryz.f564 = some Extern.MathFloatBits.float64frombits := rfl
theorem row252 : Extern.findNext Tryz.f252 = none ∧ Extern.find Tryz.f252 = some Extern.AbiNoEscape.same := ⟨by kernel_rfl, by kernel_rfl⟩
theorem vm252 : vmRow 3 Tryz.f252 = some Extern.AbiNoEscape.same := rfl
theorem row601 : Extern.findNext Tryz.f601 = none ∧ Extern.find Tryz.f601 = some (Extern.MathFloor.toIntegral "math.archTrunc" .zero) := ⟨by kernel_rfl, by kernel_rfl⟩
theorem vm601 : vmRow 6 Tryz.f601 = some (Extern.MathFloor.toIntegral "math.archTrunc" .zero) := rfl
theorem row129 : Extern.findNext Tryz.f129 = none ∧ Extern.find Tryz.f129 = some Extern.MapsClone.clone := ⟨by kernel_rfl, by kernel_rfl⟩
theorem vm129 : vmRow 7 Tryz.f129 = some Extern.MapsClone.clone := rfl
theorem rows_ok (H : Hook) (hH : H.exts = lookN extL) : @RowsOk H Tryz.prog := by
  refine @rowsOk_of H _ extL (fun f => by show H.exts f = _; rw [hH]) fun f k hm fd hp impl hv => ?_
  simp only [extL, List.mem_cons, List.not_mem_nil, or_false, Prod.mk.injEq] at hm
  rcases hm with ⟨rfl, rfl⟩ | ⟨rfl, rfl⟩ | ⟨rfl, rfl⟩ | ⟨rfl, rfl⟩ | ⟨rfl, rfl⟩ | ⟨rfl, rfl⟩ | ⟨rfl, rfl⟩
  · rw [Tryz.func474] at hp; cases hp; rw [vm474] at hv; cases hv; exact row474
  · rw [Tryz.func253] at hp; cases hp; rw [vm253] at hv; cases hv; exact row253
  · rw [Tryz.func585] at hp; cases hp; rw [vm585] at hv; cases hv; exact row585
  · rw [Tryz.func564] at hp; cases hp; rw [vm564] at hv; cases hv; exact row564
  · rw [Tryz.func252] at hp; cases hp; rw [vm252] at hv; cases hv; exact row252
  · rw [Tryz.func601] at hp; cases hp; rw [vm601] at hv; cases hv; exact row601
  · rw [Tryz.func129] at hp; cases hp; rw [vm129] at hv; cases hv; exact row129
theorem body7 : ∃ c, bodyOf Tryz.prog 7 = some c := body_of Tryz.func7 (by kernel_rfl) (by kernel_rfl)
theorem body13 : ∃ c, bodyOf Tryz.prog 13 = some c := body_of Tryz.func13 (by kernel_rfl) (by kernel_rfl)
theorem body14 : ∃ c, bodyOf Tryz.prog 14 = some c := body_of Tryz.func14 (by kernel_rfl) (by kernel_rfl)
theorem body34 : ∃ c, bodyOf Tryz.prog 34 = some c := body_of Tryz.func34 (by kernel_rfl) (by kernel_rfl)
theorem body134 : ∃ c, bodyOf Tryz.prog 134 = some c := body_of Tryz.func134 (by kernel_rfl) (by kernel_rfl)
theorem body303 : ∃ c, bodyOf Tryz.prog 303 = some c := body_of Tryz.func303 (by kernel_rfl) (by kernel_rfl)
theorem body458 : ∃ c, bodyOf Tryz.prog 458 = some c := body_of Tryz.func458 (by kernel_rfl) (by kernel_rfl)
theorem body95 : ∃ c, bodyOf Tryz.prog 95 = some c := body_of Tryz.func95 (by kernel_rfl) (by kernel_rfl)
theorem body246 : ∃ c, bodyOf Tryz.prog 246 = some c := body_of Tryz.func246 (by kernel_rfl) (by kernel_rfl)
theorem body54 : ∃ c, bodyOf Tryz.prog 54 = some c := body_of Tryz.func54 (by kernel_rfl) (by kernel_rfl)
theorem body456 : ∃ c, bodyOf Tryz.prog 456 = some c := body_of Tryz.func456 (by kernel_rfl) (by kernel_rfl)
theorem body203 : ∃ c, bodyOf Tryz.prog 203 = some c := body_of Tryz.func203 (by kernel_rfl) (by kernel_rfl)
theorem body299 : ∃ c, bodyOf Tryz.prog 299 = some c := body_of Tryz.func299 (by kernel_rfl) (by kernel_rfl)
theorem body128 : ∃ c, bodyOf Tryz.prog 128 = some c := body_of Tryz.func128 (by kernel_rfl) (by kernel_rfl)
theorem body523 : ∃ c, bodyOf Tryz.prog 523 = some c := body_of Tryz.func523 (by kernel_rfl) (by kernel_rfl)
theorem gm_lt : 0 < Tryz.prog.globals.size := by decide +kernel
section
variable {b : Base} {W : World} {m : Int}
theorem sat_ix [Hook] (hm : b.w.cell? ⟨0, 0, none⟩ = some (.int .i64 m)) (hk : b.Keeps Tryz.prog laidL tot) : Sat Tryz.prog b 203 1 := fun s sub w _ ho hl => Any.strings_Index { Tryz.laysM143 with } s sub m w hl (cell_keeps hk hm gm_lt ho)
theorem sat_ixl [Hook] (hm : b.w.cell? ⟨0, 0, none⟩ = some (.int .i64 m)) (hk : b.Keeps Tryz.prog laidL tot) : Sat Tryz.prog b 299 1 := fun s sub w _ ho hl => Any.stringslite_Index { Tryz.laysM219 with } s sub m w hl (cell_keeps hk hm gm_lt ho)
theorem sat_co [Hook] (hm : b.w.cell? ⟨0, 0, none⟩ = some (.int .i64 m)) (hk : b.Keeps Tryz.prog laidL tot) : Sat Tryz.prog b 128 2 := fun s sub w _ ho hl => Any.strings_Contains { Tryz.laysM144 with } s sub m w hl (cell_keeps hk hm gm_lt ho)
theorem sum0 (hm : b.w.cell? ⟨0, 0, none⟩ = some (.int .i64 m)) (hk : b.Keeps Tryz.prog laidL tot) : @SumOk Tryz.prog hook0 b :=
  @sumOk_of hook0 _ _ (@sums_of hook0 _ b sumL rfl (List.forall_mem_cons.2 ⟨body203, (List.forall_mem_cons.2 ⟨body299, (List.forall_mem_cons.2 ⟨body128, (by intro q h; cases h)⟩)⟩)⟩) (List.forall_mem_cons.2 ⟨@sat_ix b m hook0 hm hk, (List.forall_mem_cons.2 ⟨@sat_ixl b m hook0 hm hk, (List.forall_mem_cons.2 ⟨@sat_co b m hook0 hm hk, (by intro q h; cases h)⟩)⟩)⟩))
theorem num_all {wd lim : Nat} (h : lookNN wd lims = some lim) {m : Nat} (hm : m < lim) : ∃ lo n, @numRun hook0 Tryz.prog laidL 458 keyI key0 wd n lo = true ∧ lo ≤ m ∧ m < lo + n := by
  have h3 : (wd = 1 ∧ lim = 256) ∨ (wd = 2 ∧ lim = 4096) ∨ (wd = 3 ∧ lim = 1024) := by
    match wd, h with
    | 0, h => exact nomatch (show (none : Option Nat) = some lim from h)
    | 1, h => exact .inl ⟨rfl, (Option.some.inj (show some 256 = some lim from h)).symm⟩
    | 2, h => exact .inr (.inl ⟨rfl, (Option.some.inj (show some 4096 = some lim from h)).symm⟩)
    | 3, h => exact .inr (.inr ⟨rfl, (Option.some.inj (show some 1024 = some lim from h)).symm⟩)
    | n + 4, h => exact nomatch (show (none : Option Nat) = some lim from h)
  rcases h3 with ⟨rfl, rfl⟩ | ⟨rfl, rfl⟩ | ⟨rfl, rfl⟩
  · exact ⟨0, 256, num0_ok, by omega, by omega⟩
  · by_cases h1 : m < 1024
    · exact ⟨0, 1024, num1_ok, by omega, by omega⟩
    by_cases h2 : m < 2048
    · exact ⟨1024, 1024, num2_ok, by omega, by omega⟩
    by_cases h3 : m < 3072
    · exact ⟨2048, 1024, num3_ok, by omega, by omega⟩
    exact ⟨3072, 1024, num4_ok, by omega, by omega⟩
  · exact ⟨0, 1024, num5_ok, by omega, by omega⟩
theorem sat_m0a (hm : b.w.cell? ⟨0, 0, none⟩ = some (.int .i64 m)) (hk : b.Keeps Tryz.prog laidL tot) : @Sat hookA Tryz.prog b 303 4 := ⟨liftTab_ok (t := fun a => bkt tab0 a) (fun a r hr _ _ _ hrel hs ho => (@memo_of hook0 _ (rows_ok hook0 rfl) mixed g64 laidL tot 303 r key0 _ (sum0 (b := Base.at _ _) (cell_keeps hk hm gm_lt ho) (.of_at (hk.world hs ho))) (hk.world hs ho) _ _ hrel (tab0_ok a r hr)).mono (fun _ _ ⟨ρ1, h1, V, a, b, c, _⟩ => ⟨ρ1, h1, V, a, b, c⟩)), fun a r hr => ⟨@row_ok hook0 _ laidL 303 key0 r (tab0_ok a r hr), fun _ _ _ hrel hs ho => @memo_of hook0 _ (rows_ok hook0 rfl) mixed g64 laidL tot 303 r key0 _ (sum0 (b := Base.at _ _) (cell_keeps hk hm gm_lt ho) (.of_at (hk.world hs ho))) (hk.world hs ho) _ _ hrel (tab0_ok a r hr)⟩⟩
theorem sat_m0b (hm : b.w.cell? ⟨0, 0, none⟩ = some (.int .i64 m)) (hk : b.Keeps Tryz.prog laidL tot) : @Sat hookM Tryz.prog b 303 4 := ⟨liftTab_ok (t := fun a => bkt tab0 a) (fun a r hr _ _ _ hrel hs ho => (@memo_of hook0 _ (rows_ok hook0 rfl) mixed g64 laidL tot 303 r key0 _ (sum0 (b := Base.at _ _) (cell_keeps hk hm gm_lt ho) (.of_at (hk.world hs ho))) (hk.world hs ho) _ _ hrel (tab0_ok a r hr)).mono (fun _ _ ⟨ρ1, h1, V, a, b, c, _⟩ => ⟨ρ1, h1, V, a, b, c⟩)), fun a r hr => ⟨@row_ok hook0 _ laidL 303 key0 r (tab0_ok a r hr), fun _ _ _ hrel hs ho => @memo_of hook0 _ (rows_ok hook0 rfl) mixed g64 laidL tot 303 r key0 _ (sum0 (b := Base.at _ _) (cell_keeps hk hm gm_lt ho) (.of_at (hk.world hs ho))) (hk.world hs ho) _ _ hrel (tab0_ok a r hr)⟩⟩
theorem sat_m0c (hm : b.w.cell? ⟨0, 0, none⟩ = some (.int .i64 m)) (hk : b.Keeps Tryz.prog laidL tot) : @Sat hookC Tryz.prog b 303 4 := ⟨liftTab_ok (t := fun a => bkt tab0 a) (fun a r hr _ _ _ hrel hs ho => (@memo_of hook0 _ (rows_ok hook0 rfl) mixed g64 laidL tot 303 r key0 _ (sum0 (b := Base.at _ _) (cell_keeps hk hm gm_lt ho) (.of_at (hk.world hs ho))) (hk.world hs ho) _ _ hrel (tab0_ok a r hr)).mono (fun _ _ ⟨ρ1, h1, V, a, b, c, _⟩ => ⟨ρ1, h1, V, a, b, c⟩)), fun a r hr => ⟨@row_ok hook0 _ laidL 303 key0 r (tab0_ok a r hr), fun _ _ _ hrel hs ho => @memo_of hook0 _ (rows_ok hook0 rfl) mixed g64 laidL tot 303 r key0 _ (sum0 (b := Base.at _ _) (cell_keeps hk hm gm_lt ho) (.of_at (hk.world hs ho))) (hk.world hs ho) _ _ hrel (tab0_ok a r hr)⟩⟩
theorem sat_m0d (hm : b.w.cell? ⟨0, 0, none⟩ = some (.int .i64 m)) (hk : b.Keeps Tryz.prog laidL tot) : @Sat hookD Tryz.prog b 303 4 := ⟨liftTab_ok (t := fun a => bkt tab0 a) (fun a r hr _ _ _ hrel hs ho => (@memo_of hook0 _ (rows_ok hook0 rfl) mixed g64 laidL tot 303 r key0 _ (sum0 (b := Base.at _ _) (cell_keeps hk hm gm_lt ho) (.of_at (hk.world hs ho))) (hk.world hs ho) _ _ hrel (tab0_ok a r hr)).mono (fun _ _ ⟨ρ1, h1, V, a, b, c, _⟩ => ⟨ρ1, h1, V, a, b, c⟩)), fun a r hr => ⟨@row_ok hook0 _ laidL 303 key0 r (tab0_ok a r hr), fun _ _ _ hrel hs ho => @memo_of hook0 _ (rows_ok hook0 rfl) mixed g64 laidL tot 303 r key0 _ (sum0 (b := Base.at _ _) (cell_keeps hk hm gm_lt ho) (.of_at (hk.world hs ho))) (hk.world hs ho) _ _ hrel (tab0_ok a r hr)⟩⟩
theorem sat_m0e (hm : b.w.cell? ⟨0, 0, none⟩ = some (.int .i64 m)) (hk : b.Keeps Tryz.prog laidL tot) : @Sat hookB Tryz.prog b 303 4 := ⟨liftTab_ok (t := fun a => bkt tab0 a) (fun a r hr _ _ _ hrel hs ho => (@memo_of hook0 _ (rows_ok hook0 rfl) mixed g64 laidL tot 303 r key0 _ (sum0 (b := Base.at _ _) (cell_keeps hk hm gm_lt ho) (.of_at (hk.world hs ho))) (hk.world hs ho) _ _ hrel (tab0_ok a r hr)).mono (fun _ _ ⟨ρ1, h1, V, a, b, c, _⟩ => ⟨ρ1, h1, V, a, b, c⟩)), fun a r hr => ⟨@row_ok hook0 _ laidL 303 key0 r (tab0_ok a r hr), fun _ _ _ hrel hs ho => @memo_of hook0 _ (rows_ok hook0 rfl) mixed g64 laidL tot 303 r key0 _ (sum0 (b := Base.at _ _) (cell_keeps hk hm gm_lt ho) (.of_at (hk.world hs ho))) (hk.world hs ho) _ _ hrel (tab0_ok a r hr)⟩⟩
theorem sat_m0x (hm : b.w.cell? ⟨0, 0, none⟩ = some (.int .i64 m)) (hk : b.Keeps Tryz.prog laidL tot) : @Sat hookE Tryz.prog b 303 4 := ⟨liftTab_ok (t := fun a => bkt tab0 a) (fun a r hr _ _ _ hrel hs ho => (@memo_of hook0 _ (rows_ok hook0 rfl) mixed g64 laidL tot 303 r key0 _ (sum0 (b := Base.at _ _) (cell_keeps hk hm gm_lt ho) (.of_at (hk.world hs ho))) (hk.world hs ho) _ _ hrel (tab0_ok a r hr)).mono (fun _ _ ⟨ρ1, h1, V, a, b, c, _⟩ => ⟨ρ1, h1, V, a, b, c⟩)), fun a r hr => ⟨@row_ok hook0 _ laidL 303 key0 r (tab0_ok a r hr), fun _ _ _ hrel hs ho => @memo_of hook0 _ (rows_ok hook0 rfl) mixed g64 laidL tot 303 r key0 _ (sum0 (b := Base.at _ _) (cell_keeps hk hm gm_lt ho) (.of_at (hk.world hs ho))) (hk.world hs ho) _ _ hrel (tab0_ok a r hr)⟩⟩
theorem sat_m1a (hm : b.w.cell? ⟨0, 0, none⟩ = some (.int .i64 m)) (hk : b.Keeps Tryz.prog laidL tot) : @Sat hookA Tryz.prog b 458 5 := ⟨PrimOk.two (numberP_ok (lims := lims) (fun wd lim hl w hs ho n hn => (num_all hl hn).elim fun lo h => h.elim fun ln h => @num_calls hook0 _ (rows_ok hook0 rfl) mixed g64 laidL tot 458 w (sum0 (b := Base.at _ _) (cell_keeps hk hm gm_lt ho) (.of_at (hk.world hs ho))) (hk.world hs ho) (Nat.lt_of_lt_of_le (by decide +kernel : 0 < Tryz.prog.globals.size) (hk.world hs ho).1) keyI key0 wd ln lo n h.1 h.2.1 h.2.2)) (liftTab_ok (t := fun a => (fun _ => tab1) a) (fun a r hr _ _ _ hrel hs ho => (@memo_of hook0 _ (rows_ok hook0 rfl) mixed g64 laidL tot 458 r key0 _ (sum0 (b := Base.at _ _) (cell_keeps hk hm gm_lt ho) (.of_at (hk.world hs ho))) (hk.world hs ho) _ _ hrel (tab1_ok a r hr)).mono (fun _ _ ⟨ρ1, h1, V, a, b, c, _⟩ => ⟨ρ1, h1, V, a, b, c⟩))), fun a r hr => ⟨@row_ok hook0 _ laidL 458 key0 r (tab1_ok a r hr), fun _ _ _ hrel hs ho => @memo_of hook0 _ (rows_ok hook0 rfl) mixed g64 laidL tot 458 r key0 _ (sum0 (b := Base.at _ _) (cell_keeps hk hm gm_lt ho) (.of_at (hk.world hs ho))) (hk.world hs ho) _ _ hrel (tab1_ok a r hr)⟩⟩
theorem sat_m1b (hm : b.w.cell? ⟨0, 0, none⟩ = some (.int .i64 m)) (hk : b.Keeps Tryz.prog laidL tot) : @Sat hookM Tryz.prog b 458 5 := ⟨PrimOk.two (numberP_ok (lims := lims) (fun wd lim hl w hs ho n hn => (num_all hl hn).elim fun lo h => h.elim fun ln h => @num_calls hook0 _ (rows_ok hook0 rfl) mixed g64 laidL tot 458 w (sum0 (b := Base.at _ _) (cell_keeps hk hm gm_lt ho) (.of_at (hk.world hs ho))) (hk.world hs ho) (Nat.lt_of_lt_of_le (by decide +kernel : 0 < Tryz.prog.globals.size) (hk.world hs ho).1) keyI key0 wd ln lo n h.1 h.2.1 h.2.2)) (liftTab_ok (t := fun a => (fun _ => tab1) a) (fun a r hr _ _ _ hrel hs ho => (@memo_of hook0 _ (rows_ok hook0 rfl) mixed g64 laidL tot 458 r key0 _ (sum0 (b := Base.at _ _) (cell_keeps hk hm gm_lt ho) (.of_at (hk.world hs ho))) (hk.world hs ho) _ _ hrel (tab1_ok a r hr)).mono (fun _ _ ⟨ρ1, h1, V, a, b, c, _⟩ => ⟨ρ1, h1, V, a, b, c⟩))), fun a r hr => ⟨@row_ok hook0 _ laidL 458 key0 r (tab1_ok a r hr), fun _ _ _ hrel hs ho => @memo_of hook0 _ (rows_ok hook0 rfl) mixed g64 laidL tot 458 r key0 _ (sum0 (b := Base.at _ _) (cell_keeps hk hm gm_lt ho) (.of_at (hk.world hs ho))) (hk.world hs ho) _ _ hrel (tab1_ok a r hr)⟩⟩
theorem sat_m1c (hm : b.w.cell? ⟨0, 0, none⟩ = some (.int .i64 m)) (hk : b.Keeps Tryz.prog laidL tot) : @Sat hookC Tryz.prog b 458 5 := ⟨PrimOk.two (numberP_ok (lims := lims) (fun wd lim hl w hs ho n hn => (num_all hl hn).elim fun lo h => h.elim fun ln h => @num_calls hook0 _ (rows_ok hook0 rfl) mixed g64 laidL tot 458 w (sum0 (b := Base.at _ _) (cell_keeps hk hm gm_lt ho) (.of_at (hk.world hs ho))) (hk.world hs ho) (Nat.lt_of_lt_of_le (by decide +kernel : 0 < Tryz.prog.globals.size) (hk.world hs ho).1) keyI key0 wd ln lo n h.1 h.2.1 h.2.2)) (liftTab_ok (t := fun a => (fun _ => tab1) a) (fun a r hr _ _ _ hrel hs ho => (@memo_of hook0 _ (rows_ok hook0 rfl) mixed g64 laidL tot 458 r key0 _ (sum0 (b := Base.at _ _) (cell_keeps hk hm gm_lt ho) (.of_at (hk.world hs ho))) (hk.world hs ho) _ _ hrel (tab1_ok a r hr)).mono (fun _ _ ⟨ρ1, h1, V, a, b, c, _⟩ => ⟨ρ1, h1, V, a, b, c⟩))), fun a r hr => ⟨@row_ok hook0 _ laidL 458 key0 r (tab1_ok a r hr), fun _ _ _ hrel hs ho => @memo_of hook0 _ (rows_ok hook0 rfl) mixed g64 laidL tot 458 r key0 _ (sum0 (b := Base.at _ _) (cell_keeps hk hm gm_lt ho) (.of_at (hk.world hs ho))) (hk.world hs ho) _ _ hrel (tab1_ok a r hr)⟩⟩
theorem sat_m1d (hm : b.w.cell? ⟨0, 0, none⟩ = some (.int .i64 m)) (hk : b.Keeps Tryz.prog laidL tot) : @Sat hookD Tryz.prog b 458 5 := ⟨PrimOk.two (numberP_ok (lims := lims) (fun wd lim hl w hs ho n hn => (num_all hl hn).elim fun lo h => h.elim fun ln h => @num_calls hook0 _ (rows_ok hook0 rfl) mixed g64 laidL tot 458 w (sum0 (b := Base.at _ _) (cell_keeps hk hm gm_lt ho) (.of_at (hk.world hs ho))) (hk.world hs ho) (Nat.lt_of_lt_of_le (by decide +kernel : 0 < Tryz.prog.globals.size) (hk.world hs ho).1) keyI key0 wd ln lo n h.1 h.2.1 h.2.2)) (liftTab_ok (t := fun a => (fun _ => tab1) a) (fun a r hr _ _ _ hrel hs ho => (@memo_of hook0 _ (rows_ok hook0 rfl) mixed g64 laidL tot 458 r key0 _ (sum0 (b := Base.at _ _) (cell_keeps hk hm gm_lt ho) (.of_at (hk.world hs ho))) (hk.world hs ho) _ _ hrel (tab1_ok a r hr)).mono (fun _ _ ⟨ρ1, h1, V, a, b, c, _⟩ => ⟨ρ1, h1, V, a, b, c⟩))), fun a r hr => ⟨@row_ok hook0 _ laidL 458 key0 r (tab1_ok a r hr), fun _ _ _ hrel hs ho => @memo_of hook0 _ (rows_ok hook0 rfl) mixed g64 laidL tot 458 r key0 _ (sum0 (b := Base.at _ _) (cell_keeps hk hm gm_lt ho) (.of_at (hk.world hs ho))) (hk.world hs ho) _ _ hrel (tab1_ok a r hr)⟩⟩
theorem sat_m1e (hm : b.w.cell? ⟨0, 0, none⟩ = some (.int .i64 m)) (hk : b.Keeps Tryz.prog laidL tot) : @Sat hookB Tryz.prog b 458 5 := ⟨PrimOk.two (numberP_ok (lims := lims) (fun wd lim hl w hs ho n hn => (num_all hl hn).elim fun lo h => h.elim fun ln h => @num_calls hook0 _ (rows_ok hook0 rfl) mixed g64 laidL tot 458 w (sum0 (b := Base.at _ _) (cell_keeps hk hm gm_lt ho) (.of_at (hk.world hs ho))) (hk.world hs ho) (Nat.lt_of_lt_of_le (by decide +kernel : 0 < Tryz.prog.globals.size) (hk.world hs ho).1) keyI key0 wd ln lo n h.1 h.2.1 h.2.2)) (liftTab_ok (t := fun a => (fun _ => tab1) a) (fun a r hr _ _ _ hrel hs ho => (@memo_of hook0 _ (rows_ok hook0 rfl) mixed g64 laidL tot 458 r key0 _ (sum0 (b := Base.at _ _) (cell_keeps hk hm gm_lt ho) (.of_at (hk.world hs ho))) (hk.world hs ho) _ _ hrel (tab1_ok a r hr)).mono (fun _ _ ⟨ρ1, h1, V, a, b, c, _⟩ => ⟨ρ1, h1, V, a, b, c⟩))), fun a r hr => ⟨@row_ok hook0 _ laidL 458 key0 r (tab1_ok a r hr), fun _ _ _ hrel hs ho => @memo_of hook0 _ (rows_ok hook0 rfl) mixed g64 laidL tot 458 r key0 _ (sum0 (b := Base.at _ _) (cell_keeps hk hm gm_lt ho) (.of_at (hk.world hs ho))) (hk.world hs ho) _ _ hrel (tab1_ok a r hr)⟩⟩
theorem sat_m1x (hm : b.w.cell? ⟨0, 0, none⟩ = some (.int .i64 m)) (hk : b.Keeps Tryz.prog laidL tot) : @Sat hookE Tryz.prog b 458 5 := ⟨PrimOk.two (numberP_ok (lims := lims) (fun wd lim hl w hs ho n hn => (num_all hl hn).elim fun lo h => h.elim fun ln h => @num_calls hook0 _ (rows_ok hook0 rfl) mixed g64 laidL tot 458 w (sum0 (b := Base.at _ _) (cell_keeps hk hm gm_lt ho) (.of_at (hk.world hs ho))) (hk.world hs ho) (Nat.lt_of_lt_of_le (by decide +kernel : 0 < Tryz.prog.globals.size) (hk.world hs ho).1) keyI key0 wd ln lo n h.1 h.2.1 h.2.2)) (liftTab_ok (t := fun a => (fun _ => tab1) a) (fun a r hr _ _ _ hrel hs ho => (@memo_of hook0 _ (rows_ok hook0 rfl) mixed g64 laidL tot 458 r key0 _ (sum0 (b := Base.at _ _) (cell_keeps hk hm gm_lt ho) (.of_at (hk.world hs ho))) (hk.world hs ho) _ _ hrel (tab1_ok a r hr)).mono (fun _ _ ⟨ρ1, h1, V, a, b, c, _⟩ => ⟨ρ1, h1, V, a, b, c⟩))), fun a r hr => ⟨@row_ok hook0 _ laidL 458 key0 r (tab1_ok a r hr), fun _ _ _ hrel hs ho => @memo_of hook0 _ (rows_ok hook0 rfl) mixed g64 laidL tot 458 r key0 _ (sum0 (b := Base.at _ _) (cell_keeps hk hm gm_lt ho) (.of_at (hk.world hs ho))) (hk.world hs ho) _ _ hrel (tab1_ok a r hr)⟩⟩
theorem sumA (hm : b.w.cell? ⟨0, 0, none⟩ = some (.int .i64 m)) (hk : b.Keeps Tryz.prog laidL tot) : @SumOk Tryz.prog hookA b :=
  @sumOk_of hookA _ _ (@sums_of hookA _ b sumLA rfl (List.forall_mem_cons.2 ⟨body303, (List.forall_mem_cons.2 ⟨body458, (List.forall_mem_cons.2 ⟨body95, (List.forall_mem_cons.2 ⟨body246, (List.forall_mem_cons.2 ⟨body54, (List.forall_mem_cons.2 ⟨body456, (List.forall_mem_cons.2 ⟨body203, (List.forall_mem_cons.2 ⟨body299, (List.forall_mem_cons.2 ⟨body128, (by intro q h; cases h)⟩)⟩)⟩)⟩)⟩)⟩)⟩)⟩)⟩) (List.forall_mem_cons.2 ⟨sat_m0a hm hk, (List.forall_mem_cons.2 ⟨sat_m1a hm hk, (List.forall_mem_cons.2 ⟨(⟨@sortedStrT_ok Tryz.prog b 95 9 isItS (sortedAtS b), fun _ r hr => by cases hr⟩ : @Sat hookA Tryz.prog b 95 7), (List.forall_mem_cons.2 ⟨(⟨@sortedInt_ok Tryz.prog b 246 3 isItI (sortedAtI b), fun _ r hr => by cases hr⟩ : @Sat hookA Tryz.prog b 246 8), (List.forall_mem_cons.2 ⟨(⟨@repeatP_ok Tryz.prog b 54 (repeat_at b), fun _ r hr => by cases hr⟩ : @Sat hookA Tryz.prog b 54 9), (List.forall_mem_cons.2 ⟨(⟨indexBits_ok (index_at b), fun _ r hr => by cases hr⟩ : @Sat hookA Tryz.prog b 456 10), (List.forall_mem_cons.2 ⟨@sat_ix b m hookA hm hk, (List.forall_mem_cons.2 ⟨@sat_ixl b m hookA hm hk, (List.forall_mem_cons.2 ⟨@sat_co b m hookA hm hk, (by intro q h; cases h)⟩)⟩)⟩)⟩)⟩)⟩)⟩)⟩)⟩))
theorem oE {p : MRow → Prop} {a b : List MRow} (ha : ∀ r ∈ a, p r) (hb : ∀ r ∈ b, p r) : ∀ r ∈ a ++ b, p r := fun r h => (List.mem_append.1 h).elim (ha r) (hb r)
theorem ft {l : List MRow} (h : QT l) : ∀ r ∈ l, @RowRunsX hookA Tryz.prog laidL 134 keyTw r := @rowsX_ok hookA _ _ _ _ _ _ h
set_option maxRecDepth 100000 in
theorem trows_ok : ∀ r ∈ trows, @RowRunsX hookA Tryz.prog laidL 134 keyTw r := (oE (ft tw0_ok) (oE (ft tw1_ok) (oE (ft tw2_ok) (oE (ft tw3_ok) (oE (ft tw4_ok) (oE (ft tw5_ok) (oE (ft tw6_ok) (oE (ft tw7_ok) (oE (ft tw8_ok) (oE (ft tw9_ok) (oE (ft tw10_ok) (ft tw11_ok))))))))))))
theorem sat_tB (hm : b.w.cell? ⟨0, 0, none⟩ = some (.int .i64 m)) (hk : b.Keeps Tryz.prog laidL tot) : @Sat hookB Tryz.prog b 134 11 := ⟨@mprimX_ok hookA Tryz.prog (rows_ok hookA rfl) mixed g64 laidL tot 134 keyTw trows trows_ok b hk (fun b' hk' hc => sumA (b := b') (hc 0 _ gm_lt hm) hk'), fun _ r hr => by cases hr⟩
theorem sat_tC (hm : b.w.cell? ⟨0, 0, none⟩ = some (.int .i64 m)) (hk : b.Keeps Tryz.prog laidL tot) : @Sat hookC Tryz.prog b 134 11 := ⟨@mprimX_ok hookA Tryz.prog (rows_ok hookA rfl) mixed g64 laidL tot 134 keyTw trows trows_ok b hk (fun b' hk' hc => sumA (b := b') (hc 0 _ gm_lt hm) hk'), fun _ r hr => by cases hr⟩
theorem sat_tD (hm : b.w.cell? ⟨0, 0, none⟩ = some (.int .i64 m)) (hk : b.Keeps Tryz.prog laidL tot) : @Sat hookD Tryz.prog b 134 11 := ⟨@mprimX_ok hookA Tryz.prog (rows_ok hookA rfl) mixed g64 laidL tot 134 keyTw trows trows_ok b hk (fun b' hk' hc => sumA (b := b') (hc 0 _ gm_lt hm) hk'), fun _ r hr => by cases hr⟩
theorem sat_tM (hm : b.w.cell? ⟨0, 0, none⟩ = some (.int .i64 m)) (hk : b.Keeps Tryz.prog laidL tot) : @Sat hookM Tryz.prog b 134 11 := ⟨@mprimX_ok hookA Tryz.prog (rows_ok hookA rfl) mixed g64 laidL tot 134 keyTw trows trows_ok b hk (fun b' hk' hc => sumA (b := b') (hc 0 _ gm_lt hm) hk'), fun _ r hr => by cases hr⟩
theorem sat_tE (hm : b.w.cell? ⟨0, 0, none⟩ = some (.int .i64 m)) (hk : b.Keeps Tryz.prog laidL tot) : @Sat hookE Tryz.prog b 134 11 := ⟨@mprimX_ok hookA Tryz.prog (rows_ok hookA rfl) mixed g64 laidL tot 134 keyTw trows trows_ok b hk (fun b' hk' hc => sumA (b := b') (hc 0 _ gm_lt hm) hk'), fun _ r hr => by cases hr⟩
theorem sumB (hm : b.w.cell? ⟨0, 0, none⟩ = some (.int .i64 m)) (hk : b.Keeps Tryz.prog laidL tot) : @SumOk Tryz.prog hookB b :=
  @sumOk_of hookB _ _ (@sums_of hookB _ b sumLB rfl (List.forall_mem_cons.2 ⟨body134, (List.forall_mem_cons.2 ⟨body303, (List.forall_mem_cons.2 ⟨body458, (List.forall_mem_cons.2 ⟨body95, (List.forall_mem_cons.2 ⟨body246, (List.forall_mem_cons.2 ⟨body54, (List.forall_mem_cons.2 ⟨body456, (List.forall_mem_cons.2 ⟨body203, (List.forall_mem_cons.2 ⟨body299, (List.forall_mem_cons.2 ⟨body128, (by intro q h; cases h)⟩)⟩)⟩)⟩)⟩)⟩)⟩)⟩)⟩)⟩) (List.forall_mem_cons.2 ⟨sat_tB hm hk, (List.forall_mem_cons.2 ⟨sat_m0e hm hk, (List.forall_mem_cons.2 ⟨sat_m1e hm hk, (List.forall_mem_cons.2 ⟨(⟨@sortedStrT_ok Tryz.prog b 95 9 isItS (sortedAtS b), fun _ r hr => by cases hr⟩ : @Sat hookB Tryz.prog b 95 7), (List.forall_mem_cons.2 ⟨(⟨@sortedInt_ok Tryz.prog b 246 3 isItI (sortedAtI b), fun _ r hr => by cases hr⟩ : @Sat hookB Tryz.prog b 246 8), (List.forall_mem_cons.2 ⟨(⟨@repeatP_ok Tryz.prog b 54 (repeat_at b), fun _ r hr => by cases hr⟩ : @Sat hookB Tryz.prog b 54 9), (List.forall_mem_cons.2 ⟨(⟨indexBits_ok (index_at b), fun _ r hr => by cases hr⟩ : @Sat hookB Tryz.prog b 456 10), (List.forall_mem_cons.2 ⟨@sat_ix b m hookB hm hk, (List.forall_mem_cons.2 ⟨@sat_ixl b m hookB hm hk, (List.forall_mem_cons.2 ⟨@sat_co b m hookB hm hk, (by intro q h; cases h)⟩)⟩)⟩)⟩)⟩)⟩)⟩)⟩)⟩)⟩))
theorem fc {l : List MRow} (h : QC l) : ∀ r ∈ l, @RowRunsX hookB Tryz.prog laidL 34 keyTw r := @rowsX_ok hookB _ _ _ _ _ _ h
set_option maxRecDepth 100000 in
theorem crows_ok : ∀ r ∈ crows, @RowRunsX hookB Tryz.prog laidL 34 keyTw r := (oE (fc cw0_ok) (oE (fc cw1_ok) (oE (fc cw2_ok) (oE (fc cw3_ok) (oE (fc cw4_ok) (oE (fc cw5_ok) (oE (fc cw6_ok) (oE (fc cw7_ok) (oE (fc cw8_ok) (oE (fc cw9_ok) (oE (fc cw10_ok) (oE (fc cw11_ok) (oE (fc cw12_ok) (oE (fc cw13_ok) (oE (fc cw14_ok) (oE (fc cw15_ok) (oE (fc cw16_ok) (oE (fc cw17_ok) (oE (fc cw18_ok) (oE (fc cw19_ok) (oE (fc cw20_ok) (oE (fc cw21_ok) (oE (fc cw22_ok) (oE (fc cw23_ok) (oE (fc cw24_ok) (oE (fc cw25_ok) (oE (fc cw26_ok) (oE (fc cw27_ok) (oE (fc cw28_ok) (oE (fc cw29_ok) (oE (fc cw30_ok) (oE (fc cw31_ok) (oE (fc cw32_ok) (oE (fc cw33_ok) (oE (fc cw34_ok) (oE (fc cw35_ok) (oE (fc cw36_ok) (oE (fc cw37_ok) (oE (fc cw38_ok) (oE (fc cw39_ok) (fc cw40_ok)))))))))))))))))))))))))))))))))))))))))
theorem sat_cC (hm : b.w.cell? ⟨0, 0, none⟩ = some (.int .i64 m)) (hk : b.Keeps Tryz.prog laidL tot) : @Sat hookC Tryz.prog b 34 12 := ⟨@mprimX_ok hookB Tryz.prog (rows_ok hookB rfl) mixed g64 laidL tot 34 keyTw crows crows_ok b hk (fun b' hk' hc => sumB (b := b') (hc 0 _ gm_lt hm) hk'), fun _ r hr => by cases hr⟩
theorem sat_cD (hm : b.w.cell? ⟨0, 0, none⟩ = some (.int .i64 m)) (hk : b.Keeps Tryz.prog laidL tot) : @Sat hookD Tryz.prog b 34 12 := ⟨@mprimX_ok hookB Tryz.prog (rows_ok hookB rfl) mixed g64 laidL tot 34 keyTw crows crows_ok b hk (fun b' hk' hc => sumB (b := b') (hc 0 _ gm_lt hm) hk'), fun _ r hr => by cases hr⟩
theorem sat_cM (hm : b.w.cell? ⟨0, 0, none⟩ = some (.int .i64 m)) (hk : b.Keeps Tryz.prog laidL tot) : @Sat hookM Tryz.prog b 34 12 := ⟨@mprimX_ok hookB Tryz.prog (rows_ok hookB rfl) mixed g64 laidL tot 34 keyTw crows crows_ok b hk (fun b' hk' hc => sumB (b := b') (hc 0 _ gm_lt hm) hk'), fun _ r hr => by cases hr⟩
abbrev RC (r : MRow) : Prop := @RowRunsX hookB Tryz.prog laidL 34 keyTw r
theorem c1 {α : Type} {p : α → Prop} {a : α} {l : List α} (h : p a) (k : ∀ x ∈ l, p x) : ∀ x ∈ a :: l, p x := List.forall_mem_cons.2 ⟨h, k⟩
theorem c0 {α : Type} {p : α → Prop} : ∀ x ∈ ([] : List α), p x := fun _ h => (by cases h)
theorem g0 {α : Type} {a : α} {l : List α} : a ∈ a :: l := List.mem_cons_self ..
theorem g1 {α : Type} {x0 a : α} {l : List α} : a ∈ x0 :: a :: l := List.mem_cons_of_mem _ g0
theorem g2 {α : Type} {x0 x1 a : α} {l : List α} : a ∈ x0 :: x1 :: a :: l := List.mem_cons_of_mem _ g1
theorem g3 {α : Type} {x0 x1 x2 a : α} {l : List α} : a ∈ x0 :: x1 :: x2 :: a :: l := List.mem_cons_of_mem _ g2
theorem cr0_ok : RC cr0 := fc cw0_ok _ g0
theorem cr1_ok : RC cr1 := fc cw0_ok _ g1
theorem cr2_ok : RC cr2 := fc cw0_ok _ g2
theorem cr3_ok : RC cr3 := fc cw0_ok _ g3
theorem cr4_ok : RC cr4 := fc cw1_ok _ g0
theorem cr5_ok : RC cr5 := fc cw1_ok _ g1
theorem cr6_ok : RC cr6 := fc cw1_ok _ g2
theorem cr7_ok : RC cr7 := fc cw1_ok _ g3
theorem cr8_ok : RC cr8 := fc cw2_ok _ g0
theorem cr9_ok : RC cr9 := fc cw2_ok _ g1
theorem cr10_ok : RC cr10 := fc cw2_ok _ g2
theorem cr11_ok : RC cr11 := fc cw2_ok _ g3
theorem cr12_ok : RC cr12 := fc cw3_ok _ g0
theorem cr13_ok : RC cr13 := fc cw3_ok _ g1
theorem cr14_ok : RC cr14 := fc cw3_ok _ g2
theorem cr15_ok : RC cr15 := fc cw3_ok _ g3
theorem cr16_ok : RC cr16 := fc cw4_ok _ g0
theorem cr17_ok : RC cr17 := fc cw4_ok _ g1
theorem cr18_ok : RC cr18 := fc cw4_ok _ g2
theorem cr19_ok : RC cr19 := fc cw4_ok _ g3
theorem cr20_ok : RC cr20 := fc cw5_ok _ g0
theorem cr21_ok : RC cr21 := fc cw5_ok _ g1
theorem cr22_ok : RC cr22 := fc cw5_ok _ g2
theorem cr23_ok : RC cr23 := fc cw5_ok _ g3
theorem cr24_ok : RC cr24 := fc cw6_ok _ g0
theorem cr25_ok : RC cr25 := fc cw6_ok _ g1
theorem cr26_ok : RC cr26 := fc cw6_ok _ g2
theorem cr27_ok : RC cr27 := fc cw6_ok _ g3
theorem cr28_ok : RC cr28 := fc cw7_ok _ g0
theorem cr29_ok : RC cr29 := fc cw7_ok _ g1
theorem cr30_ok : RC cr30 := fc cw7_ok _ g2
theorem cr31_ok : RC cr31 := fc cw7_ok _ g3
theorem cr32_ok : RC cr32 := fc cw8_ok _ g0
theorem cr33_ok : RC cr33 := fc cw8_ok _ g1
theorem cr34_ok : RC cr34 := fc cw8_ok _ g2
theorem cr35_ok : RC cr35 := fc cw8_ok _ g3
theorem cr36_ok : RC cr36 := fc cw9_ok _ g0
theorem cr37_ok : RC cr37 := fc cw9_ok _ g1
theorem cr38_ok : RC cr38 := fc cw9_ok _ g2
theorem cr39_ok : RC cr39 := fc cw9_ok _ g3
theorem cr40_ok : RC cr40 := fc cw10_ok _ g0
theorem cr41_ok : RC cr41 := fc cw10_ok _ g1
theorem cr42_ok : RC cr42 := fc cw10_ok _ g2
theorem cr43_ok : RC cr43 := fc cw10_ok _ g3
theorem cr44_ok : RC cr44 := fc cw11_ok _ g0
theorem cr45_ok : RC cr45 := fc cw11_ok _ g1
theorem cr46_ok : RC cr46 := fc cw11_ok _ g2
theorem cr47_ok : RC cr47 := fc cw11_ok _ g3
theorem cr48_ok : RC cr48 := fc cw12_ok _ g0
theorem cr49_ok : RC cr49 := fc cw12_ok _ g1
theorem cr50_ok : RC cr50 := fc cw12_ok _ g2
theorem cr51_ok : RC cr51 := fc cw12_ok _ g3
theorem cr52_ok : RC cr52 := fc cw13_ok _ g0
theorem cr53_ok : RC cr53 := fc cw13_ok _ g1
theorem cr54_ok : RC cr54 := fc cw13_ok _ g2
theorem cr55_ok : RC cr55 := fc cw13_ok _ g3
theorem cr56_ok : RC cr56 := fc cw14_ok _ g0
theorem cr57_ok : RC cr57 := fc cw14_ok _ g1
theorem cr58_ok : RC cr58 := fc cw14_ok _ g2
theorem cr59_ok : RC cr59 := fc cw14_ok _ g3
theorem cr60_ok : RC cr60 := fc cw15_ok _ g0
theorem cr61_ok : RC cr61 := fc cw15_ok _ g1
theorem cr62_ok : RC cr62 := fc cw15_ok _ g2
theorem cr63_ok : RC cr63 := fc cw15_ok _ g3
theorem cr64_ok : RC cr64 := fc cw16_ok _ g0
theorem cr65_ok : RC cr65 := fc cw16_ok _ g1
theorem cr66_ok : RC cr66 := fc cw16_ok _ g2
theorem cr67_ok : RC cr67 := fc cw16_ok _ g3
theorem cr68_ok : RC cr68 := fc cw17_ok _ g0
theorem cr69_ok : RC cr69 := fc cw17_ok _ g1
theorem cr70_ok : RC cr70 := fc cw17_ok _ g2
theorem cr71_ok : RC cr71 := fc cw17_ok _ g3
theorem cr72_ok : RC cr72 := fc cw18_ok _ g0
theorem cr73_ok : RC cr73 := fc cw18_ok _ g1
theorem cr74_ok : RC cr74 := fc cw18_ok _ g2
theorem cr75_ok : RC cr75 := fc cw18_ok _ g3
theorem cr76_ok : RC cr76 := fc cw19_ok _ g0
theorem cr77_ok : RC cr77 := fc cw19_ok _ g1
theorem cr78_ok : RC cr78 := fc cw19_ok _ g2
theorem cr79_ok : RC cr79 := fc cw19_ok _ g3
theorem cr80_ok : RC cr80 := fc cw20_ok _ g0
theorem cr81_ok : RC cr81 := fc cw20_ok _ g1
theorem cr82_ok : RC cr82 := fc cw20_ok _ g2
theorem cr83_ok : RC cr83 := fc cw20_ok _ g3
theorem cr84_ok : RC cr84 := fc cw21_ok _ g0
theorem cr85_ok : RC cr85 := fc cw21_ok _ g1
theorem cr86_ok : RC cr86 := fc cw21_ok _ g2
theorem cr87_ok : RC cr87 := fc cw21_ok _ g3
theorem cr88_ok : RC cr88 := fc cw22_ok _ g0
theorem cr89_ok : RC cr89 := fc cw22_ok _ g1
theorem cr90_ok : RC cr90 := fc cw22_ok _ g2
theorem cr91_ok : RC cr91 := fc cw22_ok _ g3
theorem cr92_ok : RC cr92 := fc cw23_ok _ g0
theorem cr93_ok : RC cr93 := fc cw23_ok _ g1
theorem cr94_ok : RC cr94 := fc cw23_ok _ g2
theorem cr95_ok : RC cr95 := fc cw23_ok _ g3
theorem cr96_ok : RC cr96 := fc cw24_ok _ g0
theorem cr97_ok : RC cr97 := fc cw24_ok _ g1
theorem cr98_ok : RC cr98 := fc cw24_ok _ g2
theorem cr99_ok : RC cr99 := fc cw24_ok _ g3
theorem cr100_ok : RC cr100 := fc cw25_ok _ g0
theorem cr101_ok : RC cr101 := fc cw25_ok _ g1
theorem cr102_ok : RC cr102 := fc cw25_ok _ g2
theorem cr103_ok : RC cr103 := fc cw25_ok _ g3
theorem cr104_ok : RC cr104 := fc cw26_ok _ g0
theorem cr105_ok : RC cr105 := fc cw26_ok _ g1
theorem cr106_ok : RC cr106 := fc cw26_ok _ g2
theorem cr107_ok : RC cr107 := fc cw26_ok _ g3
theorem cr108_ok : RC cr108 := fc cw27_ok _ g0
theorem cr109_ok : RC cr109 := fc cw27_ok _ g1
theorem cr110_ok : RC cr110 := fc cw27_ok _ g2
theorem cr111_ok : RC cr111 := fc cw27_ok _ g3
theorem cr112_ok : RC cr112 := fc cw28_ok _ g0
theorem cr113_ok : RC cr113 := fc cw28_ok _ g1
theorem cr114_ok : RC cr114 := fc cw28_ok _ g2
theorem cr115_ok : RC cr115 := fc cw28_ok _ g3
theorem cr116_ok : RC cr116 := fc cw29_ok _ g0
theorem cr117_ok : RC cr117 := fc cw29_ok _ g1
theorem cr118_ok : RC cr118 := fc cw29_ok _ g2
theorem cr119_ok : RC cr119 := fc cw29_ok _ g3
theorem cr120_ok : RC cr120 := fc cw30_ok _ g0
theorem cr121_ok : RC cr121 := fc cw30_ok _ g1
theorem cr122_ok : RC cr122 := fc cw30_ok _ g2
theorem cr123_ok : RC cr123 := fc cw30_ok _ g3
theorem cr124_ok : RC cr124 := fc cw31_ok _ g0
theorem cr125_ok : RC cr125 := fc cw31_ok _ g1
theorem cr126_ok : RC cr126 := fc cw31_ok _ g2
theorem cr127_ok : RC cr127 := fc cw31_ok _ g3
theorem cr128_ok : RC cr128 := fc cw32_ok _ g0
theorem cr129_ok : RC cr129 := fc cw32_ok _ g1
theorem cr130_ok : RC cr130 := fc cw32_ok _ g2
theorem cr131_ok : RC cr131 := fc cw32_ok _ g3
theorem cr132_ok : RC cr132 := fc cw33_ok _ g0
theorem cr133_ok : RC cr133 := fc cw33_ok _ g1
theorem cr134_ok : RC cr134 := fc cw33_ok _ g2
theorem cr135_ok : RC cr135 := fc cw33_ok _ g3
theorem cr136_ok : RC cr136 := fc cw34_ok _ g0
theorem cr137_ok : RC cr137 := fc cw34_ok _ g1
theorem cr138_ok : RC cr138 := fc cw34_ok _ g2
theorem cr139_ok : RC cr139 := fc cw34_ok _ g3
theorem cr140_ok : RC cr140 := fc cw35_ok _ g0
theorem cr141_ok : RC cr141 := fc cw35_ok _ g1
theorem cr142_ok : RC cr142 := fc cw35_ok _ g2
theorem cr143_ok : RC cr143 := fc cw35_ok _ g3
theorem cr144_ok : RC cr144 := fc cw36_ok _ g0
theorem cr145_ok : RC cr145 := fc cw36_ok _ g1
theorem cr146_ok : RC cr146 := fc cw36_ok _ g2
theorem cr147_ok : RC cr147 := fc cw36_ok _ g3
theorem cr148_ok : RC cr148 := fc cw37_ok _ g0
theorem cr149_ok : RC cr149 := fc cw37_ok _ g1
theorem cr150_ok : RC cr150 := fc cw37_ok _ g2
theorem cr151_ok : RC cr151 := fc cw37_ok _ g3
theorem cr152_ok : RC cr152 := fc cw38_ok _ g0
theorem cr153_ok : RC cr153 := fc cw38_ok _ g1
theorem cr154_ok : RC cr154 := fc cw38_ok _ g2
theorem cr155_ok : RC cr155 := fc cw38_ok _ g3
theorem cr156_ok : RC cr156 := fc cw39_ok _ g0
theorem cr157_ok : RC cr157 := fc cw39_ok _ g1
theorem cr158_ok : RC cr158 := fc cw39_ok _ g2
theorem cr159_ok : RC cr159 := fc cw39_ok _ g3
theorem cr160_ok : RC cr160 := fc cw40_ok _ g0
set_option maxRecDepth 100000 in
theorem selL_ok : ∀ p ∈ selL, ∀ r ∈ p.2, RC r := (c1 (c1 cr0_ok c0) (c1 (c1 cr159_ok c0) (c1 (c1 cr1_ok c0) (c1 (c1 cr160_ok c0) (c1 (c1 cr2_ok c0) (c1 (c1 cr3_ok c0) (c1 (c1 cr4_ok c0) (c1 (c1 cr5_ok c0) (c1 (c1 cr6_ok c0) (c1 (c1 cr7_ok (c1 cr14_ok (c1 cr21_ok (c1 cr28_ok (c1 cr35_ok (c1 cr42_ok (c1 cr49_ok (c1 cr56_ok c0)))))))) (c1 (c1 cr8_ok (c1 cr15_ok (c1 cr22_ok (c1 cr29_ok (c1 cr36_ok (c1 cr43_ok (c1 cr50_ok (c1 cr57_ok c0)))))))) (c1 (c1 cr9_ok (c1 cr16_ok (c1 cr23_ok (c1 cr30_ok (c1 cr37_ok (c1 cr44_ok (c1 cr51_ok (c1 cr58_ok (c1 cr63_ok (c1 cr67_ok (c1 cr71_ok (c1 cr75_ok (c1 cr79_ok (c1 cr83_ok (c1 cr87_ok (c1 cr91_ok (c1 cr95_ok (c1 cr99_ok (c1 cr103_ok (c1 cr107_ok (c1 cr111_ok (c1 cr115_ok (c1 cr119_ok (c1 cr123_ok (c1 cr127_ok (c1 cr131_ok (c1 cr135_ok (c1 cr139_ok (c1 cr143_ok (c1 cr147_ok (c1 cr151_ok (c1 cr155_ok c0)))))))))))))))))))))))))))))))) (c1 (c1 cr10_ok (c1 cr17_ok (c1 cr24_ok (c1 cr31_ok (c1 cr38_ok (c1 cr45_ok (c1 cr52_ok (c1 cr59_ok (c1 cr64_ok (c1 cr68_ok (c1 cr72_ok (c1 cr76_ok (c1 cr80_ok (c1 cr84_ok (c1 cr88_ok (c1 cr92_ok (c1 cr96_ok (c1 cr100_ok (c1 cr104_ok (c1 cr108_ok (c1 cr112_ok (c1 cr116_ok (c1 cr120_ok (c1 cr124_ok (c1 cr128_ok (c1 cr132_ok (c1 cr136_ok (c1 cr140_ok (c1 cr144_ok (c1 cr148_ok (c1 cr152_ok (c1 cr156_ok c0)))))))))))))))))))))))))))))))) (c1 (c1 cr11_ok (c1 cr18_ok (c1 cr25_ok (c1 cr32_ok (c1 cr39_ok (c1 cr46_ok (c1 cr53_ok (c1 cr60_ok (c1 cr65_ok (c1 cr69_ok (c1 cr73_ok (c1 cr77_ok (c1 cr81_ok (c1 cr85_ok (c1 cr89_ok (c1 cr93_ok (c1 cr97_ok (c1 cr101_ok (c1 cr105_ok (c1 cr109_ok (c1 cr113_ok (c1 cr117_ok (c1 cr121_ok (c1 cr125_ok (c1 cr129_ok (c1 cr133_ok (c1 cr137_ok (c1 cr141_ok (c1 cr145_ok (c1 cr149_ok (c1 cr153_ok (c1 cr157_ok c0)))))))))))))))))))))))))))))))) (c1 (c1 cr12_ok (c1 cr19_ok (c1 cr26_ok (c1 cr33_ok (c1 cr40_ok (c1 cr47_ok (c1 cr54_ok (c1 cr61_ok (c1 cr66_ok (c1 cr70_ok (c1 cr74_ok (c1 cr78_ok (c1 cr82_ok (c1 cr86_ok (c1 cr90_ok (c1 cr94_ok (c1 cr98_ok (c1 cr102_ok (c1 cr106_ok (c1 cr110_ok (c1 cr114_ok (c1 cr118_ok (c1 cr122_ok (c1 cr126_ok (c1 cr130_ok (c1 cr134_ok (c1 cr138_ok (c1 cr142_ok (c1 cr146_ok (c1 cr150_ok (c1 cr154_ok (c1 cr158_ok c0)))))))))))))))))))))))))))))))) (c1 (c1 cr13_ok (c1 cr20_ok (c1 cr27_ok (c1 cr34_ok (c1 cr41_ok (c1 cr48_ok (c1 cr55_ok (c1 cr62_ok c0)))))))) c0))))))))))))))))
theorem selG_ok (n : Nat) : ∀ l : List (Nat × List MRow), (∀ p ∈ l, ∀ r ∈ p.2, RC r) → ∀ r ∈ selG n l, RC r
  | [], _, r, hr => crows_ok r hr
  | p :: l, h, r, hr => by
    have hr : r ∈ cond (Nat.beq p.1 n) p.2 (selG n l) := hr
    cases hc : Nat.beq p.1 n with
    | true => rw [hc] at hr; exact h p (List.mem_cons_self ..) r hr
    | false => rw [hc] at hr; exact selG_ok n l (fun q hq => h q (List.mem_cons_of_mem _ hq)) r hr
theorem sat_cE (hm : b.w.cell? ⟨0, 0, none⟩ = some (.int .i64 m)) (hk : b.Keeps Tryz.prog laidL tot) : @Sat hookE Tryz.prog b 34 12 := ⟨fun ρ h w args A_ v h' hs hr he => @mprimX_ok hookB Tryz.prog (rows_ok hookB rfl) mixed g64 laidL tot 34 keyTw (selG (fpN (h.get k1)) selL) (selG_ok _ _ selL_ok) b hk (fun b' hk' hc => sumB (b := b') (hc 0 _ gm_lt hm) hk') ρ h w args A_ v h' hs hr he, fun _ r hr => by cases hr⟩
theorem sumC (hm : b.w.cell? ⟨0, 0, none⟩ = some (.int .i64 m)) (hk : b.Keeps Tryz.prog laidL tot) : @SumOk Tryz.prog hookC b :=
  @sumOk_of hookC _ _ (@sums_of hookC _ b sumLC rfl (List.forall_mem_cons.2 ⟨body34, (List.forall_mem_cons.2 ⟨body134, (List.forall_mem_cons.2 ⟨body303, (List.forall_mem_cons.2 ⟨body458, (List.forall_mem_cons.2 ⟨body95, (List.forall_mem_cons.2 ⟨body246, (List.forall_mem_cons.2 ⟨body54, (List.forall_mem_cons.2 ⟨body456, (List.forall_mem_cons.2 ⟨body203, (List.forall_mem_cons.2 ⟨body299, (List.forall_mem_cons.2 ⟨body128, (by intro q h; cases h)⟩)⟩)⟩)⟩)⟩)⟩)⟩)⟩)⟩)⟩)⟩) (List.forall_mem_cons.2 ⟨sat_cC hm hk, (List.forall_mem_cons.2 ⟨sat_tC hm hk, (List.forall_mem_cons.2 ⟨sat_m0c hm hk, (List.forall_mem_cons.2 ⟨sat_m1c hm hk, (List.forall_mem_cons.2 ⟨(⟨@sortedStrT_ok Tryz.prog b 95 9 isItS (sortedAtS b), fun _ r hr => by cases hr⟩ : @Sat hookC Tryz.prog b 95 7), (List.forall_mem_cons.2 ⟨(⟨@sortedInt_ok Tryz.prog b 246 3 isItI (sortedAtI b), fun _ r hr => by cases hr⟩ : @Sat hookC Tryz.prog b 246 8), (List.forall_mem_cons.2 ⟨(⟨@repeatP_ok Tryz.prog b 54 (repeat_at b), fun _ r hr => by cases hr⟩ : @Sat hookC Tryz.prog b 54 9), (List.forall_mem_cons.2 ⟨(⟨indexBits_ok (index_at b), fun _ r hr => by cases hr⟩ : @Sat hookC Tryz.prog b 456 10), (List.forall_mem_cons.2 ⟨@sat_ix b m hookC hm hk, (List.forall_mem_cons.2 ⟨@sat_ixl b m hookC hm hk, (List.forall_mem_cons.2 ⟨@sat_co b m hookC hm hk, (by intro q h; cases h)⟩)⟩)⟩)⟩)⟩)⟩)⟩)⟩)⟩)⟩)⟩))
theorem yrows_ok : ∀ r ∈ yrows, @orowRun hookA Tryz.prog laidL 523 keyTw 500000 r = true := (List.forall_mem_cons.2 ⟨yr0_ok, (List.forall_mem_cons.2 ⟨yr1_ok, (List.forall_mem_cons.2 ⟨yr2_ok, (List.forall_mem_cons.2 ⟨yr3_ok, (List.forall_mem_cons.2 ⟨yr4_ok, (List.forall_mem_cons.2 ⟨yr5_ok, (List.forall_mem_cons.2 ⟨yr6_ok, (List.forall_mem_cons.2 ⟨yr7_ok, (List.forall_mem_cons.2 ⟨yr8_ok, (List.forall_mem_cons.2 ⟨yr9_ok, (List.forall_mem_cons.2 ⟨yr10_ok, (List.forall_mem_cons.2 ⟨yr11_ok, (List.forall_mem_cons.2 ⟨yr12_ok, (by intro p h; cases h)⟩)⟩)⟩)⟩)⟩)⟩)⟩)⟩)⟩)⟩)⟩)⟩)⟩)
theorem sat_yE (hm : b.w.cell? ⟨0, 0, none⟩ = some (.int .i64 m)) (hk : b.Keeps Tryz.prog laidL tot) : @Sat hookE Tryz.prog b 523 16 := ⟨@oprim_ok hookA Tryz.prog (rows_ok hookA rfl) mixed g64 laidL tot 523 500000 keyTw yrows yrows_ok b hk (fun b' hk' hc => sumA (b := b') (hc 0 _ gm_lt hm) hk'), fun _ r hr => by cases hr⟩
theorem sumE (hm : b.w.cell? ⟨0, 0, none⟩ = some (.int .i64 m)) (hk : b.Keeps Tryz.prog laidL tot) : @SumOk Tryz.prog hookE b :=
  @sumOk_of hookE _ _ (@sums_of hookE _ b sumLE rfl (List.forall_mem_cons.2 ⟨body523, (List.forall_mem_cons.2 ⟨body34, (List.forall_mem_cons.2 ⟨body134, (List.forall_mem_cons.2 ⟨body303, (List.forall_mem_cons.2 ⟨body458, (List.forall_mem_cons.2 ⟨body95, (List.forall_mem_cons.2 ⟨body246, (List.forall_mem_cons.2 ⟨body54, (List.forall_mem_cons.2 ⟨body456, (List.forall_mem_cons.2 ⟨body203, (List.forall_mem_cons.2 ⟨body299, (List.forall_mem_cons.2 ⟨body128, (by intro q h; cases h)⟩)⟩)⟩)⟩)⟩)⟩)⟩)⟩)⟩)⟩)⟩)⟩) (List.forall_mem_cons.2 ⟨sat_yE hm hk, (List.forall_mem_cons.2 ⟨sat_cE hm hk, (List.forall_mem_cons.2 ⟨sat_tE hm hk, (List.forall_mem_cons.2 ⟨sat_m0x hm hk, (List.forall_mem_cons.2 ⟨sat_m1x hm hk, (List.forall_mem_cons.2 ⟨(⟨@sortedStrT_ok Tryz.prog b 95 9 isItS (sortedAtS b), fun _ r hr => by cases hr⟩ : @Sat hookE Tryz.prog b 95 7), (List.forall_mem_cons.2 ⟨(⟨@sortedInt_ok Tryz.prog b 246 3 isItI (sortedAtI b), fun _ r hr => by cases hr⟩ : @Sat hookE Tryz.prog b 246 8), (List.forall_mem_cons.2 ⟨(⟨@repeatP_ok Tryz.prog b 54 (repeat_at b), fun _ r hr => by cases hr⟩ : @Sat hookE Tryz.prog b 54 9), (List.forall_mem_cons.2 ⟨(⟨indexBits_ok (index_at b), fun _ r hr => by cases hr⟩ : @Sat hookE Tryz.prog b 456 10), (List.forall_mem_cons.2 ⟨@sat_ix b m hookE hm hk, (List.forall_mem_cons.2 ⟨@sat_ixl b m hookE hm hk, (List.forall_mem_cons.2 ⟨@sat_co b m hookE hm hk, (by intro q h; cases h)⟩)⟩)⟩)⟩)⟩)⟩)⟩)⟩)⟩)⟩)⟩)⟩))
theorem fn {l : List MRow} (h : QN l) : ∀ r ∈ l, @RowRunsX hookC Tryz.prog laidL 13 keyTw r := @rowsX_ok hookC _ _ _ _ _ _ h
set_option maxRecDepth 100000 in
theorem nrows_ok : ∀ r ∈ nrows, @RowRunsX hookC Tryz.prog laidL 13 keyTw r := (oE (fn nw0_ok) (fn nw1_ok))
theorem fd {l : List MRow} (h : QD l) : ∀ r ∈ l, @RowRunsX hookE Tryz.prog laidL 14 keyTw r := @rowsX_ok hookE _ _ _ _ _ _ h
set_option maxRecDepth 100000 in
theorem drows_ok : ∀ r ∈ drows, @RowRunsX hookE Tryz.prog laidL 14 keyTw r := (oE (fd dw0_ok) (oE (fd dw1_ok) (oE (fd dw2_ok) (oE (fd dw3_ok) (oE (fd dw4_ok) (oE (fd dw5_ok) (oE (fd dw6_ok) (oE (fd dw7_ok) (oE (fd dw8_ok) (oE (fd dw9_ok) (oE (fd dw10_ok) (oE (fd dw11_ok) (oE (fd dw12_ok) (oE (fd dw13_ok) (oE (fd dw14_ok) (oE (fd dw15_ok) (oE (fd dw16_ok) (oE (fd dw17_ok) (oE (fd dw18_ok) (oE (fd dw19_ok) (oE (fd dw20_ok) (oE (fd dw21_ok) (oE (fd dw22_ok) (oE (fd dw23_ok) (oE (fd dw24_ok) (oE (fd dw25_ok) (oE (fd dw26_ok) (oE (fd dw27_ok) (oE (fd dw28_ok) (oE (fd dw29_ok) (oE (fd dw30_ok) (oE (fd dw31_ok) (oE (fd dw32_ok) (oE (fd dw33_ok) (oE (fd dw34_ok) (oE (fd dw35_ok) (oE (fd dw36_ok) (oE (fd dw37_ok) (oE (fd dw38_ok) (oE (fd dw39_ok) (oE (fd dw40_ok) (oE (fd dw41_ok) (oE (fd dw42_ok) (oE (fd dw43_ok) (oE (fd dw44_ok) (oE (fd dw45_ok) (oE (fd dw46_ok) (oE (fd dw47_ok) (oE (fd dw48_ok) (oE (fd dw49_ok) (oE (fd dw50_ok) (oE (fd dw51_ok) (oE (fd dw52_ok) (oE (fd dw53_ok) (oE (fd dw54_ok) (oE (fd dw55_ok) (oE (fd dw56_ok) (oE (fd dw57_ok) (oE (fd dw58_ok) (oE (fd dw59_ok) (oE (fd dw60_ok) (oE (fd dw61_ok) (oE (fd dw62_ok) (oE (fd dw63_ok) (oE (fd dw64_ok) (oE (fd dw65_ok) (oE (fd dw66_ok) (oE (fd dw67_ok) (oE (fd dw68_ok) (oE (fd dw69_ok) (oE (fd dw70_ok) (oE (fd dw71_ok) (oE (fd dw72_ok) (oE (fd dw73_ok) (oE (fd dw74_ok) (oE (fd dw75_ok) (oE (fd dw76_ok) (oE (fd dw77_ok) (oE (fd dw78_ok) (oE (fd dw79_ok) (oE (fd dw80_ok) (oE (fd dw81_ok) (oE (fd dw82_ok) (oE (fd dw83_ok) (oE (fd dw84_ok) (oE (fd dw85_ok) (oE (fd dw86_ok) (oE (fd dw87_ok) (oE (fd dw88_ok) (oE (fd dw89_ok) (oE (fd dw90_ok) (oE (fd dw91_ok) (oE (fd dw92_ok) (oE (fd dw93_ok) (oE (fd dw94_ok) (oE (fd dw95_ok) (oE (fd dw96_ok) (oE (fd dw97_ok) (oE (fd dw98_ok) (oE (fd dw99_ok) (oE (fd dw100_ok) (oE (fd dw101_ok) (oE (fd dw102_ok) (oE (fd dw103_ok) (oE (fd dw104_ok) (oE (fd dw105_ok) (oE (fd dw106_ok) (oE (fd dw107_ok) (oE (fd dw108_ok) (oE (fd dw109_ok) (oE (fd dw110_ok) (oE (fd dw111_ok) (oE (fd dw112_ok) (oE (fd dw113_ok) (oE (fd dw114_ok) (oE (fd dw115_ok) (oE (fd dw116_ok) (oE (fd dw117_ok) (oE (fd dw118_ok) (oE (fd dw119_ok) (oE (fd dw120_ok) (oE (fd dw121_ok) (oE (fd dw122_ok) (oE (fd dw123_ok) (oE (fd dw124_ok) (oE (fd dw125_ok) (oE (fd dw126_ok) (oE (fd dw127_ok) (oE (fd dw128_ok) (oE (fd dw129_ok) (oE (fd dw130_ok) (oE (fd dw131_ok) (oE (fd dw132_ok) (oE (fd dw133_ok) (oE (fd dw134_ok) (oE (fd dw135_ok) (oE (fd dw136_ok) (oE (fd dw137_ok) (oE (fd dw138_ok) (oE (fd dw139_ok) (oE (fd dw140_ok) (oE (fd dw141_ok) (oE (fd dw142_ok) (oE (fd dw143_ok) (oE (fd dw144_ok) (oE (fd dw145_ok) (oE (fd dw146_ok) (oE (fd dw147_ok) (oE (fd dw148_ok) (oE (fd dw149_ok) (oE (fd dw150_ok) (oE (fd dw151_ok) (oE (fd dw152_ok) (oE (fd dw153_ok) (oE (fd dw154_ok) (oE (fd dw155_ok) (oE (fd dw156_ok) (oE (fd dw157_ok) (oE (fd dw158_ok) (oE (fd dw159_ok) (oE (fd dw160_ok) (oE (fd dw161_ok) (oE (fd dw162_ok) (oE (fd dw163_ok) (oE (fd dw164_ok) (oE (fd dw165_ok) (oE (fd dw166_ok) (oE (fd dw167_ok) (oE (fd dw168_ok) (oE (fd dw169_ok) (oE (fd dw170_ok) (oE (fd dw171_ok) (oE (fd dw172_ok) (oE (fd dw173_ok) (oE (fd dw174_ok) (oE (fd dw175_ok) (oE (fd dw176_ok) (oE (fd dw177_ok) (oE (fd dw178_ok) (oE (fd dw179_ok) (oE (fd dw180_ok) (oE (fd dw181_ok) (oE (fd dw182_ok) (oE (fd dw183_ok) (oE (fd dw184_ok) (oE (fd dw185_ok) (oE (fd dw186_ok) (oE (fd dw187_ok) (oE (fd dw188_ok) (oE (fd dw189_ok) (oE (fd dw190_ok) (oE (fd dw191_ok) (oE (fd dw192_ok) (oE (fd dw193_ok) (oE (fd dw194_ok) (oE (fd dw195_ok) (oE (fd dw196_ok) (oE (fd dw197_ok) (oE (fd dw198_ok) (oE (fd dw199_ok) (oE (fd dw200_ok) (oE (fd dw201_ok) (oE (fd dw202_ok) (oE (fd dw203_ok) (oE (fd dw204_ok) (oE (fd dw205_ok) (oE (fd dw206_ok) (oE (fd dw207_ok) (oE (fd dw208_ok) (oE (fd dw209_ok) (oE (fd dw210_ok) (oE (fd dw211_ok) (oE (fd dw212_ok) (oE (fd dw213_ok) (oE (fd dw214_ok) (oE (fd dw215_ok) (oE (fd dw216_ok) (oE (fd dw217_ok) (oE (fd dw218_ok) (oE (fd dw219_ok) (oE (fd dw220_ok) (oE (fd dw221_ok) (oE (fd dw222_ok) (oE (fd dw223_ok) (oE (fd dw224_ok) (oE (fd dw225_ok) (oE (fd dw226_ok) (oE (fd dw227_ok) (oE (fd dw228_ok) (oE (fd dw229_ok) (oE (fd dw230_ok) (oE (fd dw231_ok) (oE (fd dw232_ok) (oE (fd dw233_ok) (oE (fd dw234_ok) (oE (fd dw235_ok) (oE (fd dw236_ok) (oE (fd dw237_ok) (oE (fd dw238_ok) (oE (fd dw239_ok) (oE (fd dw240_ok) (oE (fd dw241_ok) (oE (fd dw242_ok) (oE (fd dw243_ok) (oE (fd dw244_ok) (oE (fd dw245_ok) (oE (fd dw246_ok) (oE (fd dw247_ok) (oE (fd dw248_ok) (oE (fd dw249_ok) (oE (fd dw250_ok) (oE (fd dw251_ok) (oE (fd dw252_ok) (oE (fd dw253_ok) (oE (fd dw254_ok) (oE (fd dw255_ok) (oE (fd dw256_ok) (oE (fd dw257_ok) (oE (fd dw258_ok) (oE (fd dw259_ok) (oE (fd dw260_ok) (oE (fd dw261_ok) (oE (fd dw262_ok) (oE (fd dw263_ok) (oE (fd dw264_ok) (oE (fd dw265_ok) (oE (fd dw266_ok) (oE (fd dw267_ok) (oE (fd dw268_ok) (oE (fd dw269_ok) (oE (fd dw270_ok) (oE (fd dw271_ok) (oE (fd dw272_ok) (oE (fd dw273_ok) (oE (fd dw274_ok) (oE (fd dw275_ok) (oE (fd dw276_ok) (oE (fd dw277_ok) (oE (fd dw278_ok) (oE (fd dw279_ok) (oE (fd dw280_ok) (oE (fd dw281_ok) (oE (fd dw282_ok) (oE (fd dw283_ok) (oE (fd dw284_ok) (oE (fd dw285_ok) (oE (fd dw286_ok) (oE (fd dw287_ok) (fd dw288_ok)))))))))))))))))))))))))))))))))))))))))))))))))))))))))))))))))))))))))))))))))))))))))))))))))))))))))))))))))))))))))))))))))))))))))))))))))))))))))))))))))))))))))))))))))))))))))))))))))))))))))))))))))))))))))))))))))))))))))))))))))))))))))))))))))))))))))))))))))))))))))))))))))
theorem sat_nD (hm : b.w.cell? ⟨0, 0, none⟩ = some (.int .i64 m)) (hk : b.Keeps Tryz.prog laidL tot) : @Sat hookD Tryz.prog b 13 13 := ⟨@mprimX_ok hookC Tryz.prog (rows_ok hookC rfl) mixed g64 laidL tot 13 keyTw nrows nrows_ok b hk (fun b' hk' hc => sumC (b := b') (hc 0 _ gm_lt hm) hk'), fun _ r hr => by cases hr⟩
theorem sat_dD (hm : b.w.cell? ⟨0, 0, none⟩ = some (.int .i64 m)) (hk : b.Keeps Tryz.prog laidL tot) : @Sat hookD Tryz.prog b 14 14 := ⟨@mprimX_ok hookE Tryz.prog (rows_ok hookE rfl) mixed g64 laidL tot 14 keyTw drows drows_ok b hk (fun b' hk' hc => sumE (b := b') (hc 0 _ gm_lt hm) hk'), fun _ r hr => by cases hr⟩
theorem sat_nM (hm : b.w.cell? ⟨0, 0, none⟩ = some (.int .i64 m)) (hk : b.Keeps Tryz.prog laidL tot) : @Sat hookM Tryz.prog b 13 13 := ⟨@mprimX_ok hookC Tryz.prog (rows_ok hookC rfl) mixed g64 laidL tot 13 keyTw nrows nrows_ok b hk (fun b' hk' hc => sumC (b := b') (hc 0 _ gm_lt hm) hk'), fun _ r hr => by cases hr⟩
theorem sat_dM (hm : b.w.cell? ⟨0, 0, none⟩ = some (.int .i64 m)) (hk : b.Keeps Tryz.prog laidL tot) : @Sat hookM Tryz.prog b 14 14 := ⟨@mprimX_ok hookE Tryz.prog (rows_ok hookE rfl) mixed g64 laidL tot 14 keyTw drows drows_ok b hk (fun b' hk' hc => sumE (b := b') (hc 0 _ gm_lt hm) hk'), fun _ r hr => by cases hr⟩
theorem sumD (hm : b.w.cell? ⟨0, 0, none⟩ = some (.int .i64 m)) (hk : b.Keeps Tryz.prog laidL tot) : @SumOk Tryz.prog hookD b :=
  @sumOk_of hookD _ _ (@sums_of hookD _ b sumLD rfl (List.forall_mem_cons.2 ⟨body13, (List.forall_mem_cons.2 ⟨body14, (List.forall_mem_cons.2 ⟨body34, (List.forall_mem_cons.2 ⟨body134, (List.forall_mem_cons.2 ⟨body303, (List.forall_mem_cons.2 ⟨body458, (List.forall_mem_cons.2 ⟨body95, (List.forall_mem_cons.2 ⟨body246, (List.forall_mem_cons.2 ⟨body54, (List.forall_mem_cons.2 ⟨body456, (List.forall_mem_cons.2 ⟨body203, (List.forall_mem_cons.2 ⟨body299, (List.forall_mem_cons.2 ⟨body128, (by intro q h; cases h)⟩)⟩)⟩)⟩)⟩)⟩)⟩)⟩)⟩)⟩)⟩)⟩)⟩) (List.forall_mem_cons.2 ⟨sat_nD hm hk, (List.forall_mem_cons.2 ⟨sat_dD hm hk, (List.forall_mem_cons.2 ⟨sat_cD hm hk, (List.forall_mem_cons.2 ⟨sat_tD hm hk, (List.forall_mem_cons.2 ⟨sat_m0d hm hk, (List.forall_mem_cons.2 ⟨sat_m1d hm hk, (List.forall_mem_cons.2 ⟨(⟨@sortedStrT_ok Tryz.prog b 95 9 isItS (sortedAtS b), fun _ r hr => by cases hr⟩ : @Sat hookD Tryz.prog b 95 7), (List.forall_mem_cons.2 ⟨(⟨@sortedInt_ok Tryz.prog b 246 3 isItI (sortedAtI b), fun _ r hr => by cases hr⟩ : @Sat hookD Tryz.prog b 246 8), (List.forall_mem_cons.2 ⟨(⟨@repeatP_ok Tryz.prog b 54 (repeat_at b), fun _ r hr => by cases hr⟩ : @Sat hookD Tryz.prog b 54 9), (List.forall_mem_cons.2 ⟨(⟨indexBits_ok (index_at b), fun _ r hr => by cases hr⟩ : @Sat hookD Tryz.prog b 456 10), (List.forall_mem_cons.2 ⟨@sat_ix b m hookD hm hk, (List.forall_mem_cons.2 ⟨@sat_ixl b m hookD hm hk, (List.forall_mem_cons.2 ⟨@sat_co b m hookD hm hk, (by intro q h; cases h)⟩)⟩)⟩)⟩)⟩)⟩)⟩)⟩)⟩)⟩)⟩)⟩)⟩))
theorem free_at : (Heap.mk (startT laidL Tryz.prog.globals.size) (keyN 64)).get keyI = none := by kernel_rfl
theorem free_sy (ds : List Nat) : freeSyms [(keyI, ds)] (Heap.mk (startT laidL Tryz.prog.globals.size) (keyN 64)) = true := by
  show freeAt ((Heap.mk (startT laidL Tryz.prog.globals.size) (keyN 64)).get keyI) (freeSyms [] _) = true
  rw [free_at]; rfl
theorem parts_all : (List.range 256).all (fun j => dom0.contains j || dom1.contains j || dom2.contains j || dom3.contains j || dom4.contains j || dom5.contains j || dom6.contains j || dom7.contains j) = true := by decide +kernel
theorem parts_cover (j : Nat) (l : j < 256) : j ∈ dom0 ∨ j ∈ dom1 ∨ j ∈ dom2 ∨ j ∈ dom3 ∨ j ∈ dom4 ∨ j ∈ dom5 ∨ j ∈ dom6 ∨ j ∈ dom7 := by
  have h := List.all_eq_true.1 parts_all j (List.mem_range.2 l)
  simp only [Bool.or_eq_true, List.contains_eq_mem, decide_eq_true_eq] at h
  rcases h with ((((((h | h) | h) | h) | h) | h) | h) | h
  · exact (.inl h)
  · exact .inr ((.inl h))
  · exact .inr (.inr ((.inl h)))
  · exact .inr (.inr (.inr ((.inl h))))
  · exact .inr (.inr (.inr (.inr ((.inl h)))))
  · exact .inr (.inr (.inr (.inr (.inr ((.inl h))))))
  · exact .inr (.inr (.inr (.inr (.inr (.inr ((.inl h)))))))
  · exact .inr (.inr (.inr (.inr (.inr (.inr (.inr (h)))))))
/-- 'awake' answers true, in whatever world -/
theorem awake_ok (hm : W.cell? ⟨0, 0, none⟩ = some (.int .i64 m)) (hL : LaidOk Tryz.prog laidL tot W) : Calls Tryz.prog 7 #[] W fun e w' => e = .returned (.bool true) ∧ Grew W w' :=
  @truth_of hookD _ (rows_ok hookD rfl) mixed g64 laidL tot 7 [] [] W (sumD (b := Base.at W _) hm (.of_at hL)) hL .nil _ awake_run
theorem sat_aw [Hook] (hm : b.w.cell? ⟨0, 0, none⟩ = some (.int .i64 m)) (hk : b.Keeps Tryz.prog laidL tot) : Sat Tryz.prog b 7 3 := fun _ hs ho => awake_ok (cell_keeps hk hm gm_lt ho) (hk.world hs ho)
theorem sumM (hm : b.w.cell? ⟨0, 0, none⟩ = some (.int .i64 m)) (hk : b.Keeps Tryz.prog laidL tot) : @SumOk Tryz.prog hookM b :=
  @sumOk_of hookM _ _ (@sums_of hookM _ b sumLM rfl (List.forall_mem_cons.2 ⟨body7, (List.forall_mem_cons.2 ⟨body13, (List.forall_mem_cons.2 ⟨body14, (List.forall_mem_cons.2 ⟨body34, (List.forall_mem_cons.2 ⟨body134, (List.forall_mem_cons.2 ⟨body303, (List.forall_mem_cons.2 ⟨body458, (List.forall_mem_cons.2 ⟨body95, (List.forall_mem_cons.2 ⟨body246, (List.forall_mem_cons.2 ⟨body54, (List.forall_mem_cons.2 ⟨body456, (List.forall_mem_cons.2 ⟨body203, (List.forall_mem_cons.2 ⟨body299, (List.forall_mem_cons.2 ⟨body128, (by intro q h; cases h)⟩)⟩)⟩)⟩)⟩)⟩)⟩)⟩)⟩)⟩)⟩)⟩)⟩)⟩) (List.forall_mem_cons.2 ⟨@sat_aw b m hookM hm hk, (List.forall_mem_cons.2 ⟨sat_nM hm hk, (List.forall_mem_cons.2 ⟨sat_dM hm hk, (List.forall_mem_cons.2 ⟨sat_cM hm hk, (List.forall_mem_cons.2 ⟨sat_tM hm hk, (List.forall_mem_cons.2 ⟨sat_m0b hm hk, (List.forall_mem_cons.2 ⟨sat_m1b hm hk, (List.forall_mem_cons.2 ⟨(⟨@sortedStrT_ok Tryz.prog b 95 9 isItS (sortedAtS b), fun _ r hr => by cases hr⟩ : @Sat hookM Tryz.prog b 95 7), (List.forall_mem_cons.2 ⟨(⟨@sortedInt_ok Tryz.prog b 246 3 isItI (sortedAtI b), fun _ r hr => by cases hr⟩ : @Sat hookM Tryz.prog b 246 8), (List.forall_mem_cons.2 ⟨(⟨@repeatP_ok Tryz.prog b 54 (repeat_at b), fun _ r hr => by cases hr⟩ : @Sat hookM Tryz.prog b 54 9), (List.forall_mem_cons.2 ⟨(⟨indexBits_ok (index_at b), fun _ r hr => by cases hr⟩ : @Sat hookM Tryz.prog b 456 10), (List.forall_mem_cons.2 ⟨@sat_ix b m hookM hm hk, (List.forall_mem_cons.2 ⟨@sat_ixl b m hookM hm hk, (List.forall_mem_cons.2 ⟨@sat_co b m hookM hm hk, (by intro q h; cases h)⟩)⟩)⟩)⟩)⟩)⟩)⟩)⟩)⟩)⟩)⟩)⟩)⟩)⟩))
/-- the law answers true, in whatever world -/
theorem law_ok (hm : W.cell? ⟨0, 0, none⟩ = some (.int .i64 m)) (hL : LaidOk Tryz.prog laidL tot W) (x1 : Int) (x2 : Int) : Calls Tryz.prog 3 ⟨[.int .i64 x1, .int .i64 x2]⟩ W fun e w' => e = .returned (.bool true) ∧ Grew W w' := by
  have key : ∀ (ds : List Nat) (j : Nat) (av : List AV), j ∈ ds → RelL ((startRho tot Tryz.prog.globals.size).add keyI ⟨0, j, 0⟩) av [.int .i64 x1, .int .i64 x2] → @runF Tryz.prog hookM isTrue 500000 (startStS Tryz.prog laidL 3 av [(keyI, ds)] (keyN 64)) = true → Calls Tryz.prog 3 ⟨[.int .i64 x1, .int .i64 x2]⟩ W fun e w' => e = .returned (.bool true) ∧ Grew W w' :=
    fun ds j av hj hr hrun => @truth_sym hookM _ (rows_ok hookM rfl) mixed g64 laidL tot 3 av [.int .i64 x1, .int .i64 x2] W (sumM (b := Base.at W _) hm (.of_at hL)) hL (Nat.lt_of_lt_of_le (by decide +kernel : 0 < Tryz.prog.globals.size) hL.1) [(keyI, ds)] [j] (keyN 64) (free_sy ds) ⟨hj, trivial⟩ hr _ hrun
  obtain ⟨j1, l1, h1⟩ := red_and 3 (by decide) x1
  obtain rfl | rfl | rfl | rfl : j1 = 0 ∨ j1 = 1 ∨ j1 = 2 ∨ j1 = 3 := by omega
  · skip
    obtain ⟨j2, l2, h2⟩ := red_and 255 (by decide) x2
    rcases parts_cover j2 (by omega) with m2 | m2 | m2 | m2 | m2 | m2 | m2 | m2
    · skip
      exact key dom0 j2 [.red .i64 true 3 0, .reds .i64 true 255 keyI] m2 (.cons _ _ _ _ (.red _ _ _ _ _ h1) (.cons _ _ _ _ (.reds _ _ _ _ _ _ (Rho.add_same _ _ _) h2) .nil)) main_run_0_0
    · skip
      exact key dom1 j2 [.red .i64 true 3 0, .reds .i64 true 255 keyI] m2 (.cons _ _ _ _ (.red _ _ _ _ _ h1) (.cons _ _ _ _ (.reds _ _ _ _ _ _ (Rho.add_same _ _ _) h2) .nil)) main_run_0_1
    · skip
      exact key dom2 j2 [.red .i64 true 3 0, .reds .i64 true 255 keyI] m2 (.cons _ _ _ _ (.red _ _ _ _ _ h1) (.cons _ _ _ _ (.reds _ _ _ _ _ _ (Rho.add_same _ _ _) h2) .nil)) main_run_0_2
    · skip
      exact key dom3 j2 [.red .i64 true 3 0, .reds .i64 true 255 keyI] m2 (.cons _ _ _ _ (.red _ _ _ _ _ h1) (.cons _ _ _ _ (.reds _ _ _ _ _ _ (Rho.add_same _ _ _) h2) .nil)) main_run_0_3
    · skip
      exact key dom4 j2 [.red .i64 true 3 0, .reds .i64 true 255 keyI] m2 (.cons _ _ _ _ (.red _ _ _ _ _ h1) (.cons _ _ _ _ (.reds _ _ _ _ _ _ (Rho.add_same _ _ _) h2) .nil)) main_run_0_4
    · skip
      exact key dom5 j2 [.red .i64 true 3 0, .reds .i64 true 255 keyI] m2 (.cons _ _ _ _ (.red _ _ _ _ _ h1) (.cons _ _ _ _ (.reds _ _ _ _ _ _ (Rho.add_same _ _ _) h2) .nil)) main_run_0_5
    · skip
      exact key dom6 j2 [.red .i64 true 3 0, .reds .i64 true 255 keyI] m2 (.cons _ _ _ _ (.red _ _ _ _ _ h1) (.cons _ _ _ _ (.reds _ _ _ _ _ _ (Rho.add_same _ _ _) h2) .nil)) main_run_0_6
    · skip
      exact key dom7 j2 [.red .i64 true 3 0, .reds .i64 true 255 keyI] m2 (.cons _ _ _ _ (.red _ _ _ _ _ h1) (.cons _ _ _ _ (.reds _ _ _ _ _ _ (Rho.add_same _ _ _) h2) .nil)) main_run_0_7
  · skip
    obtain ⟨j2, l2, h2⟩ := red_and 255 (by decide) x2
    rcases parts_cover j2 (by omega) with m2 | m2 | m2 | m2 | m2 | m2 | m2 | m2
    · skip
      exact key dom0 j2 [.red .i64 true 3 1, .reds .i64 true 255 keyI] m2 (.cons _ _ _ _ (.red _ _ _ _ _ h1) (.cons _ _ _ _ (.reds _ _ _ _ _ _ (Rho.add_same _ _ _) h2) .nil)) main_run_1_0
    · skip
      exact key dom1 j2 [.red .i64 true 3 1, .reds .i64 true 255 keyI] m2 (.cons _ _ _ _ (.red _ _ _ _ _ h1) (.cons _ _ _ _ (.reds _ _ _ _ _ _ (Rho.add_same _ _ _) h2) .nil)) main_run_1_1
    · skip
      exact key dom2 j2 [.red .i64 true 3 1, .reds .i64 true 255 keyI] m2 (.cons _ _ _ _ (.red _ _ _ _ _ h1) (.cons _ _ _ _ (.reds _ _ _ _ _ _ (Rho.add_same _ _ _) h2) .nil)) main_run_1_2
    · skip
      exact key dom3 j2 [.red .i64 true 3 1, .reds .i64 true 255 keyI] m2 (.cons _ _ _ _ (.red _ _ _ _ _ h1) (.cons _ _ _ _ (.reds _ _ _ _ _ _ (Rho.add_same _ _ _) h2) .nil)) main_run_1_3
    · skip
      exact key dom4 j2 [.red .i64 true 3 1, .reds .i64 true 255 keyI] m2 (.cons _ _ _ _ (.red _ _ _ _ _ h1) (.cons _ _ _ _ (.reds _ _ _ _ _ _ (Rho.add_same _ _ _) h2) .nil)) main_run_1_4
    · skip
      exact key dom5 j2 [.red .i64 true 3 1, .reds .i64 true 255 keyI] m2 (.cons _ _ _ _ (.red _ _ _ _ _ h1) (.cons _ _ _ _ (.reds _ _ _ _ _ _ (Rho.add_same _ _ _) h2) .nil)) main_run_1_5
    · skip
      exact key dom6 j2 [.red .i64 true 3 1, .reds .i64 true 255 keyI] m2 (.cons _ _ _ _ (.red _ _ _ _ _ h1) (.cons _ _ _ _ (.reds _ _ _ _ _ _ (Rho.add_same _ _ _) h2) .nil)) main_run_1_6
    · skip
      exact key dom7 j2 [.red .i64 true 3 1, .reds .i64 true 255 keyI] m2 (.cons _ _ _ _ (.red _ _ _ _ _ h1) (.cons _ _ _ _ (.reds _ _ _ _ _ _ (Rho.add_same _ _ _) h2) .nil)) main_run_1_7
  · skip
    obtain ⟨j2, l2, h2⟩ := red_and 255 (by decide) x2
    rcases parts_cover j2 (by omega) with m2 | m2 | m2 | m2 | m2 | m2 | m2 | m2
    · skip
      exact key dom0 j2 [.red .i64 true 3 2, .reds .i64 true 255 keyI] m2 (.cons _ _ _ _ (.red _ _ _ _ _ h1) (.cons _ _ _ _ (.reds _ _ _ _ _ _ (Rho.add_same _ _ _) h2) .nil)) main_run_2_0
    · skip
      exact key dom1 j2 [.red .i64 true 3 2, .reds .i64 true 255 keyI] m2 (.cons _ _ _ _ (.red _ _ _ _ _ h1) (.cons _ _ _ _ (.reds _ _ _ _ _ _ (Rho.add_same _ _ _) h2) .nil)) main_run_2_1
    · skip
      exact key dom2 j2 [.red .i64 true 3 2, .reds .i64 true 255 keyI] m2 (.cons _ _ _ _ (.red _ _ _ _ _ h1) (.cons _ _ _ _ (.reds _ _ _ _ _ _ (Rho.add_same _ _ _) h2) .nil)) main_run_2_2
    · skip
      exact key dom3 j2 [.red .i64 true 3 2, .reds .i64 true 255 keyI] m2 (.cons _ _ _ _ (.red _ _ _ _ _ h1) (.cons _ _ _ _ (.reds _ _ _ _ _ _ (Rho.add_same _ _ _) h2) .nil)) main_run_2_3
    · skip
      exact key dom4 j2 [.red .i64 true 3 2, .reds .i64 true 255 keyI] m2 (.cons _ _ _ _ (.red _ _ _ _ _ h1) (.cons _ _ _ _ (.reds _ _ _ _ _ _ (Rho.add_same _ _ _) h2) .nil)) main_run_2_4
    · skip
      exact key dom5 j2 [.red .i64 true 3 2, .reds .i64 true 255 keyI] m2 (.cons _ _ _ _ (.red _ _ _ _ _ h1) (.cons _ _ _ _ (.reds _ _ _ _ _ _ (Rho.add_same _ _ _) h2) .nil)) main_run_2_5
    · skip
      exact key dom6 j2 [.red .i64 true 3 2, .reds .i64 true 255 keyI] m2 (.cons _ _ _ _ (.red _ _ _ _ _ h1) (.cons _ _ _ _ (.reds _ _ _ _ _ _ (Rho.add_same _ _ _) h2) .nil)) main_run_2_6
    · skip
      exact key dom7 j2 [.red .i64 true 3 2, .reds .i64 true 255 keyI] m2 (.cons _ _ _ _ (.red _ _ _ _ _ h1) (.cons _ _ _ _ (.reds _ _ _ _ _ _ (Rho.add_same _ _ _) h2) .nil)) main_run_2_7
  · skip
    obtain ⟨j2, l2, h2⟩ := red_and 255 (by decide) x2
    rcases parts_cover j2 (by omega) with m2 | m2 | m2 | m2 | m2 | m2 | m2 | m2
    · skip
      exact key dom0 j2 [.red .i64 true 3 3, .reds .i64 true 255 keyI] m2 (.cons _ _ _ _ (.red _ _ _ _ _ h1) (.cons _ _ _ _ (.reds _ _ _ _ _ _ (Rho.add_same _ _ _) h2) .nil)) main_run_3_0
    · skip
      exact key dom1 j2 [.red .i64 true 3 3, .reds .i64 true 255 keyI] m2 (.cons _ _ _ _ (.red _ _ _ _ _ h1) (.cons _ _ _ _ (.reds _ _ _ _ _ _ (Rho.add_same _ _ _) h2) .nil)) main_run_3_1
    · skip
      exact key dom2 j2 [.red .i64 true 3 3, .reds .i64 true 255 keyI] m2 (.cons _ _ _ _ (.red _ _ _ _ _ h1) (.cons _ _ _ _ (.reds _ _ _ _ _ _ (Rho.add_same _ _ _) h2) .nil)) main_run_3_2
    · skip
      exact key dom3 j2 [.red .i64 true 3 3, .reds .i64 true 255 keyI] m2 (.cons _ _ _ _ (.red _ _ _ _ _ h1) (.cons _ _ _ _ (.reds _ _ _ _ _ _ (Rho.add_same _ _ _) h2) .nil)) main_run_3_3
    · skip
      exact key dom4 j2 [.red .i64 true 3 3, .reds .i64 true 255 keyI] m2 (.cons _ _ _ _ (.red _ _ _ _ _ h1) (.cons _ _ _ _ (.reds _ _ _ _ _ _ (Rho.add_same _ _ _) h2) .nil)) main_run_3_4
    · skip
      exact key dom5 j2 [.red .i64 true 3 3, .reds .i64 true 255 keyI] m2 (.cons _ _ _ _ (.red _ _ _ _ _ h1) (.cons _ _ _ _ (.reds _ _ _ _ _ _ (Rho.add_same _ _ _) h2) .nil)) main_run_3_5
    · skip
      exact key dom6 j2 [.red .i64 true 3 3, .reds .i64 true 255 keyI] m2 (.cons _ _ _ _ (.red _ _ _ _ _ h1) (.cons _ _ _ _ (.reds _ _ _ _ _ _ (Rho.add_same _ _ _) h2) .nil)) main_run_3_6
    · skip
      exact key dom7 j2 [.red .i64 true 3 3, .reds .i64 true 255 keyI] m2 (.cons _ _ _ _ (.red _ _ _ _ _ h1) (.cons _ _ _ _ (.reds _ _ _ _ _ _ (Rho.add_same _ _ _) h2) .nil)) main_run_3_7
end
theorem own : ownKnob Tryz.prog.godebug = none := by kernel_rfl
theorem gSpace : Tryz.prog.globalNamed "strings.asciiSpace" = some 1 := by kernel_rfl
theorem tSpace : (Tryz.prog.globals[1]?).map (·.type) = some 572 := by kernel_rfl
theorem lSpace : spaceZ.length = 256 := by kernel_rfl
theorem dSpace : (Rows.laid_strings_asciiSpace : DataW Unit) = .agg (spaceZ.map fun z => .lit (.int .u8 z)) := by kernel_rfl
theorem laid_of {W : World} (hs : Tryz.prog.globals.size ≤ W.heap.size) (h : laidMetH Tryz.prog Rows.towerLinksRow.laid W) : LaidOk Tryz.prog laidL tot W := by
  rw [MakeChecks.laidMetH_plain _ _ _ (by kernel_rfl)] at h
  obtain ⟨ps, ⟨_, _, _, _, _, _, _, _, _, _, ⟨_, _, _, _, _, _, _, _, _, _, ⟨g, t, cs, fuel, p, q, hg, ht, hv, hd, _, _⟩, _⟩, _⟩, _, _⟩ := h
  obtain rfl := Option.some.inj (gSpace.symm.trans hg)
  obtain rfl := Option.some.inj (tSpace.symm.trans ht)
  rw [dSpace] at hd
  have hT := table_of gSpace hv Tryz.underlying572 Tryz.underlying5 (by kernel_rfl) (by kernel_rfl) lSpace hd
  refine ⟨hs, fun g o _ hl N ρ => ?_⟩
  by_cases e : g = 1
  · subst e
    obtain rfl : AObj.fixed 0 (spaceZ.map fun z => AV.int .u8 z) = o := Option.some.inj hl
    exact hT N ρ
  · have hne : (g == 1) = false := by simpa using e
    simp only [laidL, List.lookup, hne] at hl
    cases hl
theorem heap_size {W : World} (h : W.ShapedOpen Tryz.prog) : Tryz.prog.globals.size ≤ W.heap.size := by
  obtain ⟨o, _, ho, _⟩ := h.2 _ (Nat.le_refl _) (of_decide_eq_true (by kernel_rfl))
  exact Nat.le_of_lt (Array.getElem?_eq_some_iff.1 ho).1
set_option maxRecDepth 100000 in
theorem lifted (os : Os) (started : os.Started) (H : Type) (enc : TypeId × Value → H) :
    ReturnsInHanded {} Tryz.checked os 3 .any (fun w args => (Rows.towerLinksSpec.pre enc Tryz.prog Tryz.f3 Rows.towerLinksRow.domain false w args ∧ laidMetH Tryz.prog Rows.towerLinksRow.laid w) ∧ sizedMet enc Tryz.prog Tryz.f3 (OpenSpec.ofChange Rows.towerLinksSpec) false w args)
      (Rows.towerLinksSpec.post enc Tryz.prog Tryz.f3 false true false false) := by
  refine handed_of (C := Tryz.checked) (X := fun w _ => laidMetH Tryz.prog Rows.towerLinksRow.laid w) (fun _ _ _ hh h => h.of_heap hh) own started (by kernel_rfl) Tryz.func3
    (ChangeSpec.witness_shaped (enc := enc) (C := Tryz.checked) (os := os) (X := fun w _ => laidMetH Tryz.prog Rows.towerLinksRow.laid w) false (World.laidAll Tryz.prog os Rows.towerLinksRow.laid) #[.int .i64 0, .int .i64 0] 8 (World.laidAll_os _ _ _)
      (World.shaped_of_ZipB (by kernel_rfl) (by kernel_rfl)) (by kernel_rfl) (by kernel_rfl) (by kernel_rfl)
      (by rw [MakeChecks.laidMetH_plain _ _ _ (by kernel_rfl)]; exact laidMet_laidAll _ (by kernel_rfl) (by kernel_rfl))) ?_
  intro W base args ds gs before hval0 hW hL hsh
  have hW' := hW
  obtain ⟨p, q, hA0, hV, rfl, _, _⟩ := hW
  have hA : DataW.TrodAll enc Tryz.prog W 0 (fun _ => true) true Tryz.f3.params.toList args.toList ds p := hA0
  rw [Tryz.params3] at hA
  obtain ⟨u1, u2, d1, d2, p1, p2, rfl, rfl, rfl, hd1, hd2⟩ := trodAll_two hA
  obtain ⟨x1, rfl, rfl, rfl, wf1⟩ := open_int Tryz.underlying3 (hval0 0 _ _ (by rw [← Array.getElem?_toList, Tryz.params3]; rfl) rfl) hd1
  obtain ⟨x2, rfl, rfl, rfl, wf2⟩ := open_int Tryz.underlying3 (hval0 1 _ _ (by rw [← Array.getElem?_toList, Tryz.params3]; rfl) rfl) hd2
  obtain ⟨rfl, rfl⟩ := trodVars_none hV
  obtain ⟨m, hm⟩ := Tryz.laysM143.s1_3 W hsh
  refine (law_ok hm (laid_of (heap_size hsh) hL) x1 x2).mono fun e W' ⟨he, hg⟩ => ?_
  subst he
  exact ⟨_, rfl, post_of_grew hW' (fun _ _ _ => trodAll_mk1 (shut_bool Tryz.underlying4 _)) (fun _ => by rw [Tryz.params3]; exact (trodAll_cons_mk (shut_int Tryz.underlying3 wf1) (trodAll_cons_mk (shut_int Tryz.underlying3 wf2) trodAll_mk0))) (fun _ => rfl) hg⟩
end Go.Proofs.YtooelpaaidnhiaaGreatDoor
