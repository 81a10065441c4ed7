/- The evaluator's operations do what the model's do, third part. No conditions: a library text of the proof. -/
import Derived.Test.YtfkgfibmhhlemaaVB
import Derived.Laws.BytesString
import Derived.Laws.IdiomStrings
import Derived.Lib.UnsafeStr
namespace Go.VM
section
variable {P : Program} {w0 : World} {ρ : Rho} {h : Heap} {w : World}
theorem bytesOfA_rel : ∀ (n c : Nat), RelL ρ (bytesOfA n c) ((strBytes n c).map fun b => .int .u8 b.toNat)
  | 0, _ => .nil
  | n + 1, c => by
    simp only [bytesOfA, strBytes, List.map_cons]
    have : Int.ofNat (c % 256) = ((UInt8.ofNat c).toNat : Int) := by simp
    rw [this]
    exact .cons _ _ _ _ (.int _ _) (bytesOfA_rel n (c / 256))
theorem bytesOfA_length : ∀ (n c : Nat), (bytesOfA n c).length = n
  | 0, _ => rfl
  | n + 1, c => by simp [bytesOfA, bytesOfA_length n]
theorem cellsAt_prefix {b : Key} {off n m : Nat} {cs : List AV} (hc : cellsAt h b off n = some cs) (hm : m ≤ n) : cs.length = n ∧ cellsAt h b off m = some (cs.take m) := by
  unfold cellsAt at hc ⊢
  cases hg : cellsOf (h.get b) with
  | none => rw [hg] at hc; cases hc
  | some all =>
    rw [hg] at hc
    simp only [take_eq, drop_eq, len_eq] at hc ⊢
    cases hl : Nat.beq ((all.drop off).take n).length n with
    | false => rw [hl] at hc; cases hc
    | true =>
      rw [hl] at hc
      have hcs : (all.drop off).take n = cs := by simpa using hc
      have hlen : ((all.drop off).take n).length = n := Nat.eq_of_beq_eq_true hl
      subst hcs
      refine ⟨hlen, ?_⟩
      have e1 : ((all.drop off).take n).take m = (all.drop off).take m := by rw [List.take_take]; congr 1; omega
      rw [e1]
      have e2 : ((all.drop off).take m).length = m := by rw [← e1, List.length_take, hlen]; omega
      rw [show Nat.beq ((all.drop off).take m).length m = true by rw [e2]; simp]
      rfl
theorem load_cells_at (hs : Sim w0 ρ h w) {b : Key} {L : Loc} (hb : ρ b = some L) (off : Nat) :
    ∃ D : List Value, ∀ n cs, cellsAt h b off n = some cs → RelL ρ cs (D.take n) ∧ ∀ w' : World, w'.heap = w.heap → (loadCells ⟨L.B, L.base + off, none⟩ n).run P w' = .ok (D.take n).toArray w' := by
  cases hg : cellsOf (h.get b) with
  | none => exact ⟨[], fun n cs hc => by unfold cellsAt at hc; rw [hg] at hc; cases hc⟩
  | some all =>
    obtain ⟨C, e, q, hO, hC⟩ := cells_get hs hb hg
    refine ⟨(List.take all.length (C.toList.drop L.base)).drop off, fun n cs hc => ?_⟩
    unfold cellsAt at hc
    rw [hg] at hc
    simp only [take_eq, drop_eq, len_eq] at hc
    cases hl : Nat.beq ((all.drop off).take n).length n with
    | false => rw [hl] at hc; cases hc
    | true =>
      rw [hl] at hc
      have hcs : (all.drop off).take n = cs := by simpa using hc
      have hlen : ((all.drop off).take n).length = n := Nat.eq_of_beq_eq_true hl
      subst hcs
      have hr := (hC.2.drop off).take n
      refine ⟨hr, fun w' hw' => ?_⟩
      unfold loadCells
      rw [run_loadCellsFrom n 0 #[] _ (by rw [hr.length]; exact hlen)]
      · simp
      · intro j V hV
        have hj : ((List.take all.length (C.toList.drop L.base)).drop off)[j]? = some V := by
          rw [List.getElem?_take] at hV
          split at hV
          · exact hV
          · cases hV
        rw [List.getElem?_drop, List.getElem?_take] at hj
        split at hj
        · rw [List.getElem?_drop] at hj
          simp only [World.cell?, hw', hO]
          rw [show L.base + off + (0 + j) = L.base + (off + j) by omega]
          simpa using hj
        · cases hj
theorem sliceCells_ok (hs : Sim w0 ρ h w) {v : AV} {V : Value} (hv : Rel ρ v V) {size : Nat} {k : Nat → List AV → Res} {s : Sem Value}
    (hk : ∀ n cs Cs, RelL ρ cs Cs → cs.length = n * size → (∀ w', (Builtin.lenOf V).run P w' = .ok n w') → (∀ m, m ≤ n → ∀ w', w'.heap = w.heap → (Builtin.firstCells size m V).run P w' = .ok (Cs.take (m * size)).toArray w') → ValOk P w0 ρ h w s (k n cs)) :
    ValOk P w0 ρ h w s (sliceCells h size k v) := by
  have slc : ∀ (b : Key) (off len : Nat) (cap : ACap) (c : Nat) (L : Loc), ρ b = some L → V = .slice (some ⟨L.B, L.base + off, none⟩) len c → ValOk P w0 ρ h w s (sliceCells h size k (.slice b off len cap)) := by
    intro b off len cap c L hb hV
    dsimp only [sliceCells]
    obtain ⟨D, hD⟩ := load_cells_at (P := P) hs hb off
    cases hc : cellsAt h b off (len * size) with
    | none => exact trivial
    | some cs =>
      obtain ⟨hlen, _⟩ := cellsAt_prefix hc (Nat.le_refl _)
      refine hk len cs _ (hD _ _ hc).1 hlen (fun w' => by rw [hV]; rfl) ?_
      intro m hm w' hw'
      obtain ⟨_, hc'⟩ := cellsAt_prefix hc (Nat.mul_le_mul_right size hm)
      rw [hV]
      simp only [Builtin.firstCells]
      rw [(hD _ _ hc').2 w' hw', List.take_take]
      congr 3
      have := Nat.mul_le_mul_right size hm
      omega
  cases hv with
  | nilSlice => exact hk 0 [] [] .nil (by simp) (fun _ => rfl) (fun m hm w' hw' => by simp [Builtin.firstCells])
  | emptyS a c => exact hk 0 [] [] .nil (by simp) (fun _ => rfl) (fun m hm w' hw' => by
      have : m = 0 := by omega
      subst this
      simp [Builtin.firstCells, loadCells, loadCellsFrom])
  | sliceIs b off len c L hb => exact slc b off len _ c L hb rfl
  | sliceMore b off len c sz L hb _ _ => exact slc b off len _ c L hb rfl
  | str l c hc =>
    refine cond_ok (fun h1 => ?_) (fun _ => trivial)
    have h1 := Nat.eq_of_beq_eq_true h1
    subst h1
    refine hk l _ _ (bytesOfA_rel l c) (by rw [bytesOfA_length]; omega) (fun w' => by simp [Builtin.lenOf, strOf_size]) ?_
    intro m hm w' hw'
    simp only [Builtin.firstCells, Sem.run_pure, Nat.mul_one]
    congr 1
    rw [ByteArray.data_extract]
    apply Array.ext'
    show (((⟨strBytes l c⟩ : Array UInt8).extract 0 m).map fun b => Value.int .u8 b.toNat).toList = _
    simp [List.map_take]
  | _ => exact trivial
theorem min_eq' (a b : Nat) : min a b = Nat.min a b := rfl
theorem copyTo_ok (hs : Sim w0 ρ h w) {d _x : AV} {D X : Value} {n e t ty : Nat} {ts : Array Nat} {i : TypeInfo} {cs : List AV} {Cs : List Value} (ht : ts[0]? = some t) (hu : P.underlying t = some (.slice e)) (hi : P.info? e = some i) (hd : Rel ρ d D)
    (hr : RelL ρ cs Cs) (_hlen : cs.length = n * i.size) (hl : (Builtin.lenOf X).run P w = .ok n w) (hf : ∀ m, m ≤ n → (Builtin.firstCells i.size m X).run P w = .ok (Cs.take (m * i.size)).toArray w) :
    ValOk P w0 ρ h w (Builtin.copy_ ts ty #[D, X]) (copyTo i.size d n cs h) := by
  have base : ∀ (dst : Option Addr) (dl c : Nat), D = .slice dst dl c → ∀ w', (match dst with | none => w' = w | some a => (storeCells a (Cs.take (min n dl * i.size))).run P w = .ok () w') → (Builtin.copy_ ts ty #[D, X]).run P w = .ok (.int .i64 (Int.ofNat (min n dl))) w' := by
    intro dst dl c hD w' hw'
    subst hD
    have hfm := hf (Nat.min n dl) (Nat.min_le_left _ _)
    cases dst with
    | none =>
      dsimp only at hw'
      subst hw'
      simp [Builtin.copy_, ht, run_underlying' hu, hl, run_sizeOf hi, hfm, goInt, min_eq']
    | some a =>
      dsimp only at hw'
      simp only [min_eq'] at hw'
      simp [Builtin.copy_, ht, run_underlying' hu, hl, run_sizeOf hi, hfm, goInt, hw', min_eq']
  have slc : ∀ (b : Key) (off dl : Nat) (cap : ACap) (c : Nat) (L : Loc), ρ b = some L → D = .slice (some ⟨L.B, L.base + off, none⟩) dl c → ValOk P w0 ρ h w (Builtin.copy_ ts ty #[D, X]) (copyTo i.size (.slice b off dl cap) n cs h) := by
    intro b off dl cap c L hb hD
    dsimp only [copyTo]
    cases hset : setCells h b off (take (min n dl * i.size) cs) with
    | none => exact trivial
    | some h' =>
      rw [take_eq] at hset
      obtain ⟨w', hrun, hsim, hk⟩ := setCells_ok (P := P) hs hb (hr.take (min n dl * i.size)) hset
      exact ⟨ρ, _, w', Sub.refl _, hk, hsim, .int .i64 _, base (some ⟨L.B, L.base + off, none⟩) dl c hD w' hrun⟩
  cases hd with
  | nilSlice => exact here hs (v := .int .i64 0) (.int .i64 0) (by have := base none 0 0 rfl w rfl; rw [Nat.min_zero] at this; exact this)
  | emptyS a c => exact here hs (v := .int .i64 0) (.int .i64 0) (by have := base (some a) 0 c rfl w (by simp [storeCells]); rw [Nat.min_zero] at this; exact this)
  | sliceIs b off len c L hb => exact slc b off len _ c L hb rfl
  | sliceMore b off len c sz L hb _ _ => exact slc b off len _ c L hb rfl
  | _ => exact trivial
end
end Go.VM
namespace Go.VM
section
variable {P : Program} {w0 : World} {ρ : Rho} {h : Heap} {w : World}
theorem allByte_rel : ∀ {cs : List AV} {Cs : List Value}, RelL ρ cs Cs → allByte cs = true → ∃ ns : List UInt8, Cs = ns.map (fun b => .int .u8 (b.toNat : Int)) ∧ codeOfCells cs = bytesCode ns ∧ ns.length = cs.length
  | _, _, .nil, _ => ⟨[], rfl, rfl, rfl⟩
  | _, _, .cons v V r R hv hr, hb => by
    cases hv with
    | int k n =>
      cases n with
      | negSucc n => cases k <;> simp [allByte] at hb
      | ofNat n =>
        cases k <;> simp [allByte] at hb
        obtain ⟨h1, h2⟩ := hb
        obtain ⟨ns, e1, e2, e3⟩ := allByte_rel hr h2
        refine ⟨UInt8.ofNat n :: ns, ?_, ?_, by simp [e3]⟩
        · rw [e1]; simp; omega
        · simp only [codeOfCells, bytesCode, e2]; congr 1; simp; omega
    | _ => simp [allByte] at hb
theorem foldl_push (ns : List UInt8) : ∀ s : ByteArray, (ns.map (fun b => (b.toNat : Int))).foldl (fun r (n : Int) => r.push (UInt8.ofNat n.toNat)) s = ⟨⟨s.data.toList ++ ns⟩⟩ := by
  induction ns with
  | nil => intro s; simp
  | cons b ns ih =>
    intro s
    simp only [List.map_cons, List.foldl_cons]
    rw [ih]
    simp
theorem str_of_bytes (ns : List UInt8) : (⟨⟨ns⟩⟩ : ByteArray) = strOf ns.length (bytesCode ns) := by
  have := strOf_code ⟨⟨ns⟩⟩
  exact this.symm
theorem isByteT_iff {e : Nat} (he : isByteT P e = true) : P.underlying e = some (.int .u8) := by
  unfold isByteT at he
  cases hu : P.underlying e with
  | none => simp [hu] at he
  | some d =>
    cases d with
    | int k => cases k <;> simp [hu] at he; rfl
    | _ => simp [hu] at he
theorem bytesToStr_ok (hs : Sim w0 ρ h w) {src dst e : Nat} {v : AV} {V : Value} (hu1 : P.underlying src = some (.slice e)) (hu2 : P.underlying dst = some .string) (he : isByteT P e = true) (hv : Rel ρ v V) (hns : ∀ l c, v ≠ .str l c) :
    ValOk P w0 ρ h w (convert src dst V) (sliceCells h 1 (fun l cs => cond (allByte cs) (strV l (codeOfCells cs) h) (.bad "bytes")) v) := by
  have hue := isByteT_iff he
  by_cases hj : v = .junk
  · subst hj; exact trivial
  refine sliceCells_ok hs hv fun n cs Cs hr hlen hl hf => ?_
  refine cond_ok (fun hb => ?_) (fun _ => trivial)
  obtain ⟨ns, e1, e2, e3⟩ := allByte_rel hr hb
  unfold strV
  rw [forceN_eq, forceN_eq]
  refine cond_ok (fun _ => ?_) (fun _ => trivial)
  have hn : n = ns.length := by omega
  rw [e2]
  have hlt := bytesCode_lt ns
  refine here hs (.str n (bytesCode ns) (by rw [hn]; exact hlt)) ?_
  have hstr : (⟨⟨ns⟩⟩ : ByteArray) = strOf n (bytesCode ns) := by rw [hn]; exact str_of_bytes ns
  rw [← hstr]
  have hfull := hf n (Nat.le_refl _) w rfl
  have hl := hl w
  have htake : Cs.take (n * 1) = Cs := by rw [List.take_of_length_le]; rw [hr.length, hlen]; omega
  rw [htake, e1] at hfull
  cases hv with
  | nilSlice =>
    have h0 : ns = [] := by
      have : (Builtin.lenOf (.slice none 0 0)).run P w = .ok 0 w := rfl
      rw [this] at hl
      have : n = 0 := by injection hl with a _; exact a.symm
      subst this
      exact List.eq_nil_of_length_eq_zero hn.symm
    subst h0
    rw [run_convert_bytes_string w src dst e none 0 0 hu1 hue hu2]
    rfl
  | emptyS a c =>
    rw [run_convert_bytes_string w src dst e _ _ _ hu1 hue hu2]
    have : (Builtin.lenOf (.slice (some a) 0 c)).run P w = .ok 0 w := rfl
    rw [this] at hl
    have h0 : n = 0 := by injection hl with a _; exact a.symm
    subst h0
    have h0 : ns = [] := List.eq_nil_of_length_eq_zero hn.symm
    subst h0
    rw [run_bytesToString w a 0 c [] (by simp [loadCells, loadCellsFrom])]
    rfl
  | sliceIs b off len c L hb' =>
    rw [run_convert_bytes_string w src dst e _ _ _ hu1 hue hu2]
    have : (Builtin.lenOf (.slice (some ⟨L.B, L.base + off, none⟩) len c)).run P w = .ok len w := rfl
    rw [this] at hl
    have h0 : n = len := by injection hl with a _; exact a.symm
    subst h0
    simp only [Builtin.firstCells, Nat.mul_one] at hfull
    have e4 : (ns.map fun b => Value.int .u8 (b.toNat : Int)) = ((ns.map fun b => (b.toNat : Int)).map (Value.int .u8)) := by simp
    rw [e4] at hfull
    rw [run_bytesToString w _ n c _ hfull, foldl_push]
    simp
  | sliceMore b off len c sz L hb' _ _ =>
    rw [run_convert_bytes_string w src dst e _ _ _ hu1 hue hu2]
    have : (Builtin.lenOf (.slice (some ⟨L.B, L.base + off, none⟩) len c)).run P w = .ok len w := rfl
    rw [this] at hl
    have h0 : n = len := by injection hl with a _; exact a.symm
    subst h0
    simp only [Builtin.firstCells, Nat.mul_one] at hfull
    have e4 : (ns.map fun b => Value.int .u8 (b.toNat : Int)) = ((ns.map fun b => (b.toNat : Int)).map (Value.int .u8)) := by simp
    rw [e4] at hfull
    rw [run_bytesToString w _ n c _ hfull, foldl_push]
    simp
  | str l c _ => exact absurd rfl (hns l c)
  | junk => exact absurd rfl hj
  | _ => simp [Builtin.lenOf] at hl
theorem grownCap_ge (w : World) (need old : Nat) (e : TypeId) : need ≤ grownCap w need old e := by
  unfold grownCap Question.cut
  exact Nat.le_add_right _ _
theorem alloc_ok' {w1 : World} (hs : Sim w0 ρ h w1) {o : AObj} {O : Obj} {k : Key → Heap → Res} {s : Sem Value} {L : Loc} (hL : L.B = w1.heap.size)
    (ho : ∀ b, ρ b = none → ObjRel w0.heap.size (ρ.add b L) L (some O) o)
    (hk : ∀ b h', ρ b = none → Sub ρ (ρ.add b L) → Kept ρ h (ρ.add b L) h' → Sim w0 (ρ.add b L) h' (w1.alloc O) → ValOk P w0 ρ h w s (k b h')) : ValOk P w0 ρ h w s (h.alloc o k) := by
  obtain ⟨t, n⟩ := h
  show ValOk P w0 ρ _ w s (Heap.allocT t n o k)
  unfold Heap.allocT
  cases e : t.get n with
  | some x => exact trivial
  | none =>
    have hb : (Heap.mk t n).get n = none := e
    have hn := hs.none_of_get hb
    have h1 : Sim w0 (ρ.add n L) ((Heap.mk t n).put n o) (w1.alloc O) := hs.alloc hb hL (ho n hn)
    have h2 : Sim w0 (ρ.add n L) (Heap.mk (t.set o n) (incr n)) (w1.alloc O) := ⟨h1.os, h1.out, h1.size, h1.old, h1.obj, h1.inj⟩
    have h3 : Kept ρ (Heap.mk t n) (ρ.add n L) (Heap.mk (t.set o n) (incr n)) := fun k x g e => kept_add (h := .mk t n) (o := o) (L := L) hb k x g e
    exact hk n _ hn (Rho.sub_add hn) h3 h2
/-- a new open row: cells known at its head, zeros or anything behind -/
theorem openRow_ok (hs : Sim w0 ρ h w) {e : Nat} {cs : List AV} {C : Array Value} {q : Nat × Nat} {s : Sem Value} {len cap sz : Nat} (hC : RelL ρ cs (C.toList.take cs.length)) (hlen : cs.length ≤ C.size) (hq : ∀ j, q.1 ≤ j → j < q.2 → C.size ≤ j)
    (hcap : len ≤ cap) (hsz : cap * sz = C.size) (hrun : s.run P w = .ok (.slice (some ⟨w.heap.size, 0, none⟩) len cap) (w.drew.alloc (.cells C e q))) :
    ValOk P w0 ρ h w s (h.alloc (.cells e cs true 0) (fun b h => .val (.slice b 0 len (.more sz)) h)) := by
  refine alloc_ok' hs.drew (L := ⟨w.heap.size, 0, C.size⟩) (O := .cells C e q) rfl (fun b hn => ?_) (fun b h' _ hsub hk hs' => ⟨_, _, _, hsub, hk, hs', ?_, hrun⟩)
  · refine ⟨hs.size, C, q, rfl, rfl, fun j h1 h2 => .inr (hq j h1 h2), ⟨by simpa using hlen, ?_⟩, fun e => (by cases e), fun _ e => (by cases e)⟩
    simpa using hC.mono (Rho.sub_add hn)
  · exact Rel.sliceMore b 0 len cap sz ⟨w.heap.size, 0, C.size⟩ (Rho.add_same _ _ _) hcap (by simpa using hsz)
theorem xConvStr_ok (hs : Sim w0 ρ h w) {src dst l c : Nat} (hc : c < 256 ^ l) : ValOk P w0 ρ h w (convert src dst (.string (strOf l c))) (xConvStr P src dst l c h) := by
  unfold xConvStr
  cases hu : P.underlying dst with
  | none => exact trivial
  | some d =>
    cases d with
    | string =>
      dsimp only
      refine cond_ok (fun hk => ?_) (fun _ => trivial)
      unfold known at hk
      cases hus : P.underlying src with
      | none => simp [hus] at hk
      | some ds =>
        refine here hs (.str l c hc) ?_
        simp only [convert, Sem.run_bind, run_underlying' hus, run_underlying' hu, Result.andThen_ok]
        cases ds <;> rfl
    | slice e =>
      dsimp only
      refine cond_ok (fun hk => ?_) (fun _ => trivial)
      rw [Bool.and_eq_true] at hk
      have hue := isByteT_iff hk.1
      have hus := isStrT_iff hk.2
      have hrun := run_bytes_of_string (P := P) w src dst e (strOf l c) hus hu hue
      rw [strOf_size] at hrun
      have hge := grownCap_ge w l 0 e
      have hsz : (bytesRow (strOf l c) (grownCap w l 0 e)).size = grownCap w l 0 e := by
        have : (strOf l c).data.size = l := strOf_size l c
        simp [bytesRow, strOf_size, this]; omega
      refine openRow_ok hs ?_ ?_ ?_ hge (by rw [hsz]; omega) hrun
      · rw [bytesOfA_length]
        have : (bytesRow (strOf l c) (grownCap w l 0 e)).toList.take l = (strBytes l c).map fun b => Value.int .u8 b.toNat := by
          simp only [bytesRow, Array.toList_append, Array.toList_map]
          rw [List.take_append_of_le_length (by simp [strOf, strBytes_length])]
          rw [List.take_of_length_le (by simp [strOf, strBytes_length])]
          rfl
        rw [this]; exact bytesOfA_rel l c
      · rw [bytesOfA_length, hsz]; exact hge
      · intro j h1 h2; exact h1
    | _ => exact trivial
theorem seenAt_ok {B off : Nat} {C : Array Value} {e : TypeId} {q : Nat × Nat} (hO : w.heap[B]? = some (.cells C e q)) : (Conv.seenAt ⟨B, off, none⟩).run P w = .ok ⟨B, off, none⟩ w := by
  simp [Conv.seenAt, viewAt, World.shape?, hO]
theorem xConvPtr_ok (_hP : TypesOk P) (hs : Sim w0 ρ h w) {src dst off : Nat} {b : Key} {L : Loc} (hb : ρ b = some L) : ValOk P w0 ρ h w (convert src dst (.pointer (some ⟨L.B, L.base + off, none⟩))) (xConvPtr P src dst b off h) := by
  unfold xConvPtr
  obtain ⟨o, ho, hlt, hr⟩ := hs.obj b L hb
  rw [ho]
  split
  · rename_i e cs heq
    injection heq with heq
    subst heq
    obtain ⟨_, C, q, hO, htot, _, hC, h1, _⟩ := hr
    obtain ⟨hbase, hlen⟩ := h1 rfl
    split
    · rename_i t hu1 hu2
      refine cond_ok (fun hc => ?_) (fun _ => trivial)
      rw [Bool.and_eq_true] at hc
      obtain ⟨i, hi⟩ := pos_info (P := P) (e := t) (by simpa [posT] using hc.2)
      have hoff := blt_lt hc.1
      rw [len_eq] at hoff
      rw [szOf_eq hi] at hc
      have hsz : i.size ≠ 0 := by intro e; rw [e] at hc; simp at hc
      refine here hs (.ptr b off L hb) ?_
      have hn : ¬ (L.base + off ≥ C.size) := by rw [hbase, htot, hlen]; omega
      simp [convert, run_underlying' hu1, run_underlying' hu2, Conv.unsafePointer, seenAt_ok hO, run_sizeOf hi, hsz, cellsIn, World.shape?, hO]
      omega
    · rename_i u hu1 hu2
      refine cond_ok (fun hc => ?_) (fun _ => trivial)
      rw [Bool.and_eq_true] at hc
      obtain ⟨i, hi⟩ := pos_info hc.1
      have hc := hc.2
      refine here hs (.ptr b off L hb) ?_
      rw [len_eq] at hc
      have hC' : C.size = cs.length := by rw [htot, hlen]
      simp [convert, run_underlying' hu1, run_underlying' hu2, Conv.unsafePointer, seenAt_ok hO, run_sizeOf hi, variablesAt, run_program, World.shape?, hO, hC', hbase, hc]
    · exact trivial
  · exact trivial
theorem xConvert_ok (hP : TypesOk P) (hs : Sim w0 ρ h w) {src dst : Nat} {v : AV} {V : Value} (hv : Rel ρ v V) : ValOk P w0 ρ h w (convert src dst V) (xConvert P src dst v h) := by
  unfold xConvert
  split
  · cases hv; exact scalV_ok hs
  · cases hv; exact scalV_ok hs
  · cases hv with | str l c hc => exact xConvStr_ok hs hc
  · cases hv with | ptr b off L hb => exact xConvPtr_ok hP hs hb
  · rename_i h1 h2 h3 h4
    unfold xConvSl
    split
    · rename_i e hu1 hu2
      refine cond_ok (fun hc => ?_) (fun _ => trivial)
      exact bytesToStr_ok hs hu1 hu2 hc hv (fun l c e => h3 l c e)
    · exact trivial
end
end Go.VM
namespace Go.VM
theorem growBy_le (need : Nat) : ∀ (r c : Nat), c ≤ 2 * need + 192 → Builtin.growBy need r c ≤ 2 * need + 192
  | 0, c, h => h
  | r + 1, c, h => by
    unfold Builtin.growBy
    split
    · exact h
    · exact growBy_le need r _ (by omega)
theorem nextcap_le (need c : Nat) (h : c < need) : Builtin.nextslicecap need c ≤ 2 * need + 192 := by
  unfold Builtin.nextslicecap
  split
  · omega
  · split
    · omega
    · exact growBy_le need 4 c (by omega)
section
variable {P : Program} {w0 : World} {ρ : Rho} {h : Heap} {w : World}
/-- 'append' as the model runs it, in place -/
theorem run_append_place {ts : Array Nat} {t t1 ty e len c n : Nat} {i : TypeInfo} {base : Option Addr} {X : Value} {New : List Value} {w' : World} (h0 : ts[0]? = some t) (h1 : ts[1]? = some t1) (hu : P.underlying t = some (.slice e)) (hi : P.info? e = some i)
    (ht1 : notIntT P t1 = true) (hl : (Builtin.lenOf X).run P w = .ok n w) (hf : (Builtin.firstCells i.size n X).run P w = .ok New.toArray w) (hle : len + n ≤ c)
    (hst : match base with | none => w' = w | some a => (storeCells (a.add (len * i.size)) New).run P w = .ok () w') :
    (Builtin.append_ ts ty #[.slice base len c, X]).run P w = .ok (.slice base (len + n) c) w' := by
  have hz : ∃ d, P.underlying t1 = some d ∧ (∀ k, d ≠ .int k) := by
    unfold notIntT at ht1
    cases hd : P.underlying t1 with
    | none => simp [hd] at ht1
    | some d => cases d <;> simp [hd] at ht1 <;> exact ⟨_, rfl, by simp⟩
  obtain ⟨d1, hd1, hnk⟩ := hz
  have hm : (match d1 with | .int _ => true | _ => false) = false := by cases d1 <;> first | rfl | exact absurd rfl (hnk _)
  cases base with
  | none =>
    dsimp only at hst
    subst hst
    simp [Builtin.append_, h0, h1, run_underlying' hu, run_sizeOf hi, run_underlying' hd1, hl, hle, hf]
  | some a =>
    dsimp only at hst
    simp [Builtin.append_, h0, h1, run_underlying' hu, run_sizeOf hi, run_underlying' hd1, hl, hle, hf, hst]
/-- 'append' into a new row -/
theorem run_append_grow {ts : Array Nat} {t t1 ty e len c n : Nat} {i : TypeInfo} {Z : Value} {base : Option Addr} {X : Value} {Old New : List Value} (h0 : ts[0]? = some t) (h1 : ts[1]? = some t1) (hu : P.underlying t = some (.slice e)) (hi : P.info? e = some i)
    (hZ : i.zero = some Z) (ht1 : notIntT P t1 = true) (hl : ∀ w, (Builtin.lenOf X).run P w = .ok n w) (hf : (Builtin.firstCells i.size n X).run P w.drew = .ok New.toArray w.drew) (ho : (Builtin.firstCells i.size len (.slice base len c)).run P w.drew = .ok Old.toArray w.drew)
    (hgt : c < len + n) (hb1 : (len + n) * i.bytes ≤ 1000000000) (hb2 : len + n ≤ 1000000000) :
    (Builtin.append_ ts ty #[.slice base len c, X]).run P w = .ok (.slice (some ⟨w.heap.size, 0, none⟩) (len + n) (grownCap w (len + n) c e)) (w.drew.alloc (.cells (Old ++ New ++ (Builtin.zeroCells Z.cells (grownCap w (len + n) c e - (len + n))).toList).toArray e)) := by
  have hz : ∃ d, P.underlying t1 = some d ∧ (∀ k, d ≠ .int k) := by
    unfold notIntT at ht1
    cases hd : P.underlying t1 with
    | none => simp [hd] at ht1
    | some d => cases d <;> simp [hd] at ht1 <;> exact ⟨_, rfl, by simp⟩
  obtain ⟨d1, hd1, hnk⟩ := hz
  have hm : (match d1 with | .int _ => true | _ => false) = false := by cases d1 <;> first | rfl | exact absurd rfl (hnk _)
  have hle : ¬ len + n ≤ c := by omega
  have hbytes : i.bytes ≤ 1000000000 := by
    have : 1 * i.bytes ≤ (len + n) * i.bytes := Nat.mul_le_mul_right _ (by omega)
    omega
  have hcap : ¬ Builtin.nextslicecap (len + n) c * i.bytes > 2 ^ 48 := by
    have h1 := Nat.mul_le_mul_right i.bytes (nextcap_le (len + n) c hgt)
    have h2 : (2 * (len + n) + 192) * i.bytes = 2 * ((len + n) * i.bytes) + 192 * i.bytes := by rw [Nat.add_mul, Nat.mul_assoc]
    omega
  have hmax : ¬ (((len + n : Nat) : Int) > IntKind.i64.max) := by show ¬ ((len + n : Nat) : Int) > 9223372036854775807; omega
  have hzr : ∀ w, (zeroValue e).run P w = .ok Z w := fun w => by simp [zeroValue, typeInfo, hi, hZ]
  simp only [Builtin.append_, h0, h1]
  simp [run_underlying' hu, run_sizeOf hi, run_underlying' hd1, hl, hle, run_typeInfo hi, hcap, ho, hf, hzr]
  have hnot : ¬ (9223372036854775807 < (len : Int) + (n : Int) ∧ i.bytes = 0) := by omega
  have hfo : ¬ ((Question.appendCap (len + n) c e).forced = true) := by simp [Question.forced]
  rw [if_neg hnot, if_neg hfo]
  simp [newRow, grownCap]
  congr 2
  apply Array.ext'
  simp
theorem Sim.kill (hs : Sim w0 ρ h w) {b : Key} {L : Loc} {o : AObj} (_hb : ρ b = some L) (_hg : h.get b = some o) (_hlive : o.live = true) : Sim w0 ρ (h.put b .dead) w := by
  refine ⟨hs.os, hs.out, hs.size, hs.old, ?_, ?_⟩
  · intro k K e
    obtain ⟨x, gx, hlt, hr⟩ := hs.obj k K e
    by_cases hk : b = k
    · subst hk; exact ⟨.dead, Heap.get_put_same h b .dead, hlt, trivial⟩
    · exact ⟨x, by rw [Heap.get_put_other h b k .dead hk]; exact gx, hlt, hr⟩
  · intro k1 k2 L1 L2 o1 o2 e1 e2 g1 g2 l1 l2 hB
    have key : ∀ k ok, (h.put b .dead).get k = some ok → ok.live = true → h.get k = some ok := by
      intro k ok g l
      by_cases hk : b = k
      · subst hk; rw [Heap.get_put_same] at g; cases g; simp [AObj.live] at l
      · rw [Heap.get_put_other h b k .dead hk] at g; exact g
    exact hs.inj k1 k2 L1 L2 o1 o2 e1 e2 (key _ _ g1 l1) (key _ _ g2 l2) l1 l2 hB
/-- a block known under a new key; the old key is dead -/
theorem Sim.move (hs : Sim w0 ρ h w) {b b' : Key} {L L' : Loc} {o o' : AObj} {O : Obj} {w' : World} (hb : ρ b = some L) (hg : h.get b = some o) (hlive : o.live = true) (hb' : (h.put b .dead).get b' = none) (hB' : L'.B = L.B)
    (hN : w0.heap.size ≤ L.B) (hos : w'.os = w.os) (hout : w'.output = w.output) (hsz : w'.heap.size = w.heap.size) (hsame : ∀ k, k ≠ L.B → w'.heap[k]? = w.heap[k]?) (hat : w'.heap[L.B]? = some O)
    (ho : ObjRel w0.heap.size (ρ.add b' L') L' (some O) o') : Sim w0 (ρ.add b' L') ((h.put b .dead).put b' o') w' := by
  have hkill := hs.kill hb hg hlive
  have hn := hkill.none_of_get hb'
  have hsub : Sub ρ (ρ.add b' L') := Rho.sub_add hn
  obtain ⟨_, _, hltL, _⟩ := hs.obj b L hb
  have hne : b ≠ b' := by intro e; subst e; rw [Heap.get_put_same] at hb'; cases hb'
  refine ⟨hos.trans hs.os, hout.trans hs.out, by rw [hsz]; exact hs.size, ?_, ?_, ?_⟩
  · intro k hk; rw [hsame k (by omega)]; exact hs.old k hk
  · intro k K e
    by_cases hk : b' = k
    · subst hk
      rw [Rho.add_same] at e; cases e
      refine ⟨o', Heap.get_put_same _ _ _, by rw [hB', hsz]; exact hltL, ?_⟩
      rw [hB', hat]; exact ho
    · have e' : ρ k = some K := by simpa [Rho.add, hk] using e
      rw [Heap.get_put_other _ _ _ _ hk]
      obtain ⟨x, gx, hlt, hr⟩ := hkill.obj k K e'
      refine ⟨x, gx, by rw [hsz]; exact hlt, ?_⟩
      cases hl : x.live with
      | false => cases x <;> first | exact trivial | simp [AObj.live] at hl
      | true =>
        have hbk : b ≠ k := by intro e0; subst e0; rw [Heap.get_put_same] at gx; cases gx; simp [AObj.live] at hl
        have gx' := gx
        rw [Heap.get_put_other h b k .dead hbk] at gx'
        have hneB : K.B ≠ L.B := fun hB => hbk (hs.inj b k L K o x hb e' hg gx' hlive hl hB.symm)
        rw [hsame _ hneB]; exact hr.mono hsub
  · intro k1 k2 L1 L2 o1 o2 e1 e2 g1 g2 l1 l2 hB
    have key : ∀ k K ok, (ρ.add b' L') k = some K → ((h.put b .dead).put b' o').get k = some ok → ok.live = true → b' ≠ k → ρ k = some K ∧ h.get k = some ok ∧ b ≠ k := by
      intro k K ok e g l hk
      have e' : ρ k = some K := by simpa [Rho.add, hk] using e
      rw [Heap.get_put_other _ _ _ _ hk] at g
      have hbk : b ≠ k := by intro e0; subst e0; rw [Heap.get_put_same] at g; cases g; simp [AObj.live] at l
      rw [Heap.get_put_other h b k .dead hbk] at g
      exact ⟨e', g, hbk⟩
    by_cases h1 : b' = k1
    · subst h1
      by_cases h2 : b' = k2
      · exact h2
      · exfalso
        obtain ⟨e2', g2', hb2⟩ := key k2 L2 o2 e2 g2 l2 h2
        rw [Rho.add_same] at e1; cases e1
        exact hb2 (hs.inj b k2 L L2 o o2 hb e2' hg g2' hlive l2 (by rw [← hB']; exact hB))
    · obtain ⟨e1', g1', hb1⟩ := key k1 L1 o1 e1 g1 l1 h1
      by_cases h2 : b' = k2
      · exfalso
        subst h2
        rw [Rho.add_same] at e2; cases e2
        exact hb1 (hs.inj b k1 L L1 o o1 hb e1' hg g1' hlive l1 (by rw [← hB']; exact hB.symm))
      · obtain ⟨e2', g2', _⟩ := key k2 L2 o2 e2 g2 l2 h2
        exact hs.inj k1 k2 L1 L2 o1 o2 e1' e2' g1' g2' l1 l2 hB
end
end Go.VM
namespace Go.VM
section
variable {P : Program} {w0 : World} {ρ : Rho} {h : Heap} {w : World}
theorem alloc_ok2 {w1 : World} {h1 : Heap} (hk1 : Kept ρ h ρ h1) (hs : Sim w0 ρ h1 w1) {o : AObj} {O : Obj} {k : Key → Heap → Res} {s : Sem Value} {L : Loc} (hL : L.B = w1.heap.size)
    (ho : ∀ b, ρ b = none → ObjRel w0.heap.size (ρ.add b L) L (some O) o)
    (hk : ∀ b h', ρ b = none → Sub ρ (ρ.add b L) → Kept ρ h (ρ.add b L) h' → Sim w0 (ρ.add b L) h' (w1.alloc O) → ValOk P w0 ρ h w s (k b h')) : ValOk P w0 ρ h w s (h1.alloc o k) := by
  obtain ⟨t, n⟩ := h1
  show ValOk P w0 ρ _ w s (Heap.allocT t n o k)
  unfold Heap.allocT
  cases e : t.get n with
  | some x => exact trivial
  | none =>
    have hb : (Heap.mk t n).get n = none := e
    have hn := hs.none_of_get hb
    have a1 : Sim w0 (ρ.add n L) ((Heap.mk t n).put n o) (w1.alloc O) := hs.alloc hb hL (ho n hn)
    have a2 : Sim w0 (ρ.add n L) (Heap.mk (t.set o n) (incr n)) (w1.alloc O) := ⟨a1.os, a1.out, a1.size, a1.old, a1.obj, a1.inj⟩
    have a3 : Kept ρ (Heap.mk t n) (ρ.add n L) (Heap.mk (t.set o n) (incr n)) := fun k x g e => kept_add (h := .mk t n) (o := o) (L := L) hb k x g e
    exact hk n _ hn (Rho.sub_add hn) (hk1.trans a3) a2
theorem openRow_ok2 {h1 : Heap} (hk1 : Kept ρ h ρ h1) (hs : Sim w0 ρ h1 w) {e : Nat} {cs : List AV} {C : Array Value} {q : Nat × Nat} {s : Sem Value} {len cap sz fz : Nat} (hC : RelL ρ cs (C.toList.take cs.length)) (hlen : cs.length ≤ C.size) (hq : ∀ j, q.1 ≤ j → j < q.2 → C.size ≤ j)
    (hcap : len ≤ cap) (hsz : cap * sz = C.size) (hrun : s.run P w = .ok (.slice (some ⟨w.heap.size, 0, none⟩) len cap) (w.drew.alloc (.cells C e q))) :
    ValOk P w0 ρ h w s (h1.alloc (.cells e cs true fz) (fun b h => .val (.slice b 0 len (.more sz)) h)) := by
  refine alloc_ok2 hk1 hs.drew (L := ⟨w.heap.size, 0, C.size⟩) (O := .cells C e q) rfl (fun b hn => ?_) (fun b h' _ hsub hk hs' => ⟨_, _, _, hsub, hk, hs', ?_, hrun⟩)
  · refine ⟨hs.size, C, q, rfl, rfl, fun j h1 h2 => .inr (hq j h1 h2), ⟨by simpa using hlen, ?_⟩, fun e => (by cases e), fun _ e => (by cases e)⟩
    simpa using hC.mono (Rho.sub_add hn)
  · exact Rel.sliceMore b 0 len cap sz ⟨w.heap.size, 0, C.size⟩ (Rho.add_same _ _ _) hcap (by simpa using hsz)
theorem zeroCells_size (Z : Array Value) (n : Nat) : (Builtin.zeroCells Z n).size = n * Z.size := by simp [Builtin.zeroCells]
/-- what 'append' makes anew -/
theorem grown_ok {fz : Nat} {h1 : Heap} (hk1 : Kept ρ h ρ h1) (hs : Sim w0 ρ h1 w) {e need c : Nat} {i : TypeInfo} {Z : Value} {cs : List AV} {Cs : List Value} {s : Sem Value} (hi : P.info? e = some i) (_hZ : i.zero = some Z) (hZs : Z.cells.size = i.size)
    (hr : RelL ρ cs Cs) (hlen : cs.length = need * i.size)
    (hrun : need * i.bytes ≤ 1000000000 → need ≤ 1000000000 → s.run P w = .ok (.slice (some ⟨w.heap.size, 0, none⟩) need (grownCap w need c e)) (w.drew.alloc (.cells (Cs ++ (Builtin.zeroCells Z.cells (grownCap w need c e - need)).toList).toArray e))) :
    ValOk P w0 ρ h w s (grown P h1 e i.size cs need fz) := by
  unfold grown
  refine cond_ok (fun hc => ?_) (fun _ => trivial)
  rw [Bool.and_eq_true] at hc
  have b1 := Nat.le_of_ble_eq_true hc.1
  have b2 := Nat.le_of_ble_eq_true hc.2
  have hby : bytesOf P e = i.bytes := by simp [bytesOf, hi]
  rw [hby] at b1
  have hrun := hrun b1 b2
  have hge := grownCap_ge w need c e
  have hcl := hr.length
  have hsz : (Cs ++ (Builtin.zeroCells Z.cells (grownCap w need c e - need)).toList).toArray.size = grownCap w need c e * i.size := by
    simp only [List.size_toArray, List.length_append, Array.length_toList, zeroCells_size, hcl, hlen, hZs]
    rw [← Nat.add_mul]; congr 1; omega
  have hfun : (fun b h => forceN need (fun n => Res.val (.slice b 0 n (.more i.size)) h)) = (fun (b : Key) (h : Heap) => Res.val (.slice b 0 need (.more i.size)) h) := by funext b h; rw [forceN_eq]
  rw [hfun]
  refine openRow_ok2 hk1 hs ?_ ?_ ?_ hge hsz.symm hrun
  · show RelL ρ cs ((Cs ++ _).take cs.length)
    rw [List.take_append_of_le_length (by omega), List.take_of_length_le (by omega)]
    exact hr
  · rw [hsz, hlen]; exact Nat.mul_le_mul_right _ hge
  · intro j h1 h2; exact absurd h2 (by simp)
end
end Go.VM
namespace Go.VM
section
variable {P : Program} {w0 : World} {ρ : Rho} {h : Heap} {w : World}
theorem cellsOfW_some {b : Key} {cs : List AV} (hc : cellsOfW (h.get b) = some cs) : ∃ e opn fz, h.get b = some (.cells e cs opn fz) := by
  unfold cellsOfW at hc
  split at hc
  · rename_i e c o f heq
    cases hc
    exact ⟨e, o, f, heq⟩
  · cases hc
/-- the cells of a slice that lies in a known row, in every world with this heap -/
theorem old_cells (hs : Sim w0 ρ h w) {b : Key} {L : Loc} (hb : ρ b = some L) {cs : List AV} {e opn fz} (hg : h.get b = some (.cells e cs opn fz)) {off n : Nat} (hle : off + n ≤ cs.length) :
    ∃ Os : List Value, RelL ρ ((cs.drop off).take n) Os ∧ ∀ w' : World, w'.heap = w.heap → (loadCells ⟨L.B, L.base + off, none⟩ n).run P w' = .ok Os.toArray w' := by
  obtain ⟨D, hD⟩ := load_cells_at (P := P) hs hb off
  have hc : cellsAt h b off n = some ((cs.drop off).take n) := by
    unfold cellsAt cellsOf
    rw [hg]
    simp only [take_eq, drop_eq, len_eq]
    rw [show ((cs.drop off).take n).length = n by simp; omega]
    simp
  obtain ⟨h1, h2⟩ := hD n _ hc
  exact ⟨_, h1, h2⟩
theorem firstCells_slice {a : Addr} {l c size n : Nat} : Builtin.firstCells size n (.slice (some a) l c) = loadCells a (n * size) := rfl
theorem allSure_eq : ∀ l : List AV, allSure l = allOne l
  | [] => rfl
  | v :: r => by unfold allSure allOne; rw [allSure_eq r]
theorem move_ok (hs : Sim w0 ρ h w) {b : Key} {L L' : Loc} {o o' : AObj} {O : Obj} {w' : World} {k : Key → Heap → Res} {s : Sem Value} (hb : ρ b = some L) (hg : h.get b = some o) (hlive : o.live = true) (hB' : L'.B = L.B)
    (hN : w0.heap.size ≤ L.B) (hos : w'.os = w.os) (hout : w'.output = w.output) (hsz : w'.heap.size = w.heap.size) (hsame : ∀ k, k ≠ L.B → w'.heap[k]? = w.heap[k]?) (hat : w'.heap[L.B]? = some O)
    (ho : ∀ b', ρ b' = none → ObjRel w0.heap.size (ρ.add b' L') L' (some O) o')
    (hk : ∀ b' h', Sub ρ (ρ.add b' L') → Kept ρ h (ρ.add b' L') h' → Sim w0 (ρ.add b' L') h' w' → ValOk P w0 ρ h w s (k b' h')) : ValOk P w0 ρ h w s ((h.put b .dead).alloc o' k) := by
  have hkill := hs.kill hb hg hlive
  have hkp : Kept ρ h ρ (h.put b .dead) := kept_put hb
  have hmove : ∀ b', (h.put b .dead).get b' = none → Sim w0 (ρ.add b' L') ((h.put b .dead).put b' o') w' :=
    fun b' hb' => hs.move hb hg hlive hb' hB' hN hos hout hsz hsame hat (ho b' (hkill.none_of_get hb'))
  generalize hh1 : h.put b .dead = h1 at *
  obtain ⟨t, n⟩ := h1
  show ValOk P w0 ρ _ w s (Heap.allocT t n o' k)
  unfold Heap.allocT
  cases e : t.get n with
  | some x => exact trivial
  | none =>
    have hb' : (Heap.mk t n).get n = none := e
    have hn := hkill.none_of_get hb'
    have a1 := hmove n hb'
    have a2 : Sim w0 (ρ.add n L') (Heap.mk (t.set o' n) (incr n)) w' := ⟨a1.os, a1.out, a1.size, a1.old, a1.obj, a1.inj⟩
    have a3 : Kept ρ (Heap.mk t n) (ρ.add n L') (Heap.mk (t.set o' n) (incr n)) := fun k x g e => kept_add (h := .mk t n) (o := o') (L := L') hb' k x g e
    exact hk n _ (Rho.sub_add hn) (hkp.trans a3) a2
theorem appendA_ok (_hP : TypesOk P) (hs : Sim w0 ρ h w) {ts : Array Nat} {t t1 ty e n : Nat} {i : TypeInfo} {s : AV} {S X : Value} {news : List AV} {New : List Value} (h0 : ts[0]? = some t) (h1 : ts[1]? = some t1) (hu : P.underlying t = some (.slice e)) (hi : P.info? e = some i) (hpos : 0 < i.size) (hzf : zeroFits P e = true)
    (ht1 : notIntT P t1 = true) (hS : Rel ρ s S) (hr : RelL ρ news New) (hlen : news.length = n * i.size) (hl : ∀ w', (Builtin.lenOf X).run P w' = .ok n w')
    (hf : ∀ w' : World, w'.heap = w.heap → (Builtin.firstCells i.size n X).run P w' = .ok New.toArray w') : ValOk P w0 ρ h w (Builtin.append_ ts ty #[S, X]) (appendA P h e i.size s n news) := by
  obtain ⟨Z, hZ, hZs⟩ : ∃ Z, i.zero = some Z ∧ Z.cells.size = i.size := by
    unfold zeroFits at hzf
    rw [hi] at hzf
    dsimp only at hzf
    cases hz : i.zero with
    | none => simp [hz] at hzf
    | some Z => rw [hz] at hzf; exact ⟨Z, rfl, Nat.eq_of_beq_eq_true hzf⟩
  have hnl := hr.length
  have hf0 := hf w rfl
  have hf1 := hf w.drew rfl
  have n0 : n = 0 → New = [] := by
    intro e0; subst e0; apply List.eq_nil_of_length_eq_zero; rw [hnl, hlen]; omega
  -- a slice at a known row
  have slc : ∀ (b : Key) (off len : Nat) (cap : ACap) (c : Nat) (L : Loc), ρ b = some L → S = .slice (some ⟨L.B, L.base + off, none⟩) len c → Rel ρ (.slice b off len cap) S →
      (match cap with | .is c' => c' = c | .more sz => len ≤ c ∧ L.base + off + c * sz = L.total) → ValOk P w0 ρ h w (Builtin.append_ ts ty #[S, X]) (appendA P h e i.size (.slice b off len cap) n news) := by
    intro b off len cap c L hb hSe hSr hcap
    subst hSe
    dsimp only [appendA]
    refine cond_ok (fun hn0 => ?_) (fun hn0 => ?_)
    · have hn0 := Nat.eq_of_beq_eq_true hn0
      refine cond_ok (fun hroom => ?_) (fun _ => trivial)
      refine here hs hSr ?_
      have hlc : len ≤ c := by
        cases cap with
        | is c' => dsimp only at hcap; subst hcap; exact Nat.le_of_ble_eq_true hroom
        | more sz => exact hcap.1
      have := run_append_place (ty := ty) (w := w) (w' := w) (base := some ⟨L.B, L.base + off, none⟩) (len := len) (c := c) h0 h1 hu hi ht1 (hl w) hf0 (by omega) (by rw [n0 hn0]; simp [storeCells])
      rw [hn0] at this
      exact this
    · have hnpos : n ≠ 0 := by intro e0; subst e0; simp at hn0
      cases hc : cellsOfW (h.get b) with
      | none => exact trivial
      | some cs =>
        obtain ⟨el, opn, fz, hg⟩ := cellsOfW_some hc
        dsimp only
        rw [len_eq]
        refine cond_ok (fun hle => ?_) (fun _ => trivial)
        have hle := Nat.le_of_ble_eq_true hle
        refine cond_ok (fun hsure => ?_) (fun _ => trivial)
        obtain ⟨Os, hOs, hOrun⟩ := old_cells (P := P) hs hb hg hle
        have hallr : RelL ρ ((cs.drop off).take (len * i.size) ++ news) (Os ++ New) := hOs.append hr
        have halll : ((cs.drop off).take (len * i.size) ++ news).length = (len + n) * i.size := by
          rw [List.length_append, List.length_take, List.length_drop, hlen, Nat.add_mul]; omega
        have hgrow : c < len + n → (len + n) * i.bytes ≤ 1000000000 → len + n ≤ 1000000000 →
            (Builtin.append_ ts ty #[.slice (some ⟨L.B, L.base + off, none⟩) len c, X]).run P w = .ok (.slice (some ⟨w.heap.size, 0, none⟩) (len + n) (grownCap w (len + n) c e)) (w.drew.alloc (.cells ((Os ++ New) ++ (Builtin.zeroCells Z.cells (grownCap w (len + n) c e - (len + n))).toList).toArray e)) := by
          intro hgt b1 b2
          exact run_append_grow h0 h1 hu hi hZ ht1 hl hf1 (by rw [firstCells_slice]; exact hOrun w.drew rfl) hgt b1 b2
        have hplace : ∀ w', len + n ≤ c → (storeCells ⟨L.B, L.base + (off + len * i.size), none⟩ New).run P w = .ok () w' →
            (Builtin.append_ ts ty #[.slice (some ⟨L.B, L.base + off, none⟩) len c, X]).run P w = .ok (.slice (some ⟨L.B, L.base + off, none⟩) (len + n) c) w' := by
          intro w' hlc hst
          exact run_append_place (base := some ⟨L.B, L.base + off, none⟩) h0 h1 hu hi ht1 (hl w) hf0 hlc (by dsimp only; rw [addr_add]; exact hst)
        unfold appendS
        simp only [cat_eq, take_eq, drop_eq, len_eq]
        cases cap with
        | is c' =>
          dsimp only at hcap
          subst hcap
          dsimp only
          refine cond_ok (fun hfit => ?_) (fun hfit => ?_)
          · have hfit := Nat.le_of_ble_eq_true hfit
            unfold inPlace
            cases hset : setCells h b (off + len * i.size) news with
            | none => exact trivial
            | some h' =>
              obtain ⟨w', hrun, hsim, hk⟩ := setCells_ok (P := P) hs hb hr hset
              exact ⟨ρ, _, w', Sub.refl _, hk, hsim, .sliceIs b off (len + n) c' L hb, hplace w' hfit hrun⟩
          · have hgt : c' < len + n := by
              rcases Nat.lt_or_ge c' (len + n) with h' | h'
              · exact h'
              · rw [Nat.ble_eq_true_of_le h'] at hfit; cases hfit
            exact grown_ok (Kept.refl _ _) hs hi hZ hZs hallr halll (hgrow hgt)
        | more sz =>
          obtain ⟨hlc, htot⟩ := hcap
          dsimp only
          refine cond_ok (fun hsz => ?_) (fun _ => trivial)
          have hsz := Nat.eq_of_beq_eq_true hsz
          subst hsz
          have hobj := hs.obj b L hb
          obtain ⟨o, ho, hltB, hrel⟩ := hobj
          rw [hg] at ho; cases ho
          have hrel0 := hrel
          obtain ⟨hN, C, q, hO, hCs, hFz, hC, hop, hfz0⟩ := hrel
          refine cond_ok (fun hfit => ?_) (fun hfit => ?_)
          · have hfit := Nat.le_of_ble_eq_true hfit
            have hcn : len + n ≤ c := by
              have : L.base + cs.length ≤ L.total := by rw [← hCs]; exact hC.1
              have h2 : (len + n) * i.size ≤ c * i.size := by omega
              exact Nat.le_of_mul_le_mul_right h2 hpos
            unfold inPlace
            cases hset : setCells h b (off + len * i.size) news with
            | none => exact trivial
            | some h' =>
              obtain ⟨w', hrun, hsim, hk⟩ := setCells_ok (P := P) hs hb hr hset
              exact ⟨ρ, _, w', Sub.refl _, hk, hsim, .sliceMore b off (len + n) c _ L hb hcn htot, hplace w' hcn hrun⟩
          · have hfe : fzElem (h.get b) = some (el, fz) := by rw [hg]; rfl
            rw [hfe]
            unfold growMore
            simp only [cat_eq, take_eq, drop_eq]
            refine cond_ok (fun hcc => ?_) (fun _ => trivial)
            rw [Bool.and_eq_true] at hcc
            have hel := Nat.eq_of_beq_eq_true hcc.1
            have hfzle := Nat.le_of_ble_eq_true hcc.2
            subst hel
            rw [forceN_eq]
            by_cases hgt : c < len + n
            · exact grown_ok (kept_put hb) (hs.kill hb hg rfl) hi hZ hZs hallr halll (hgrow hgt)
            · -- there was room behind what is known
              have hcn : len + n ≤ c := by omega
              have hmul : (len + n) * i.size ≤ c * i.size := Nat.mul_le_mul_right _ hcn
              rw [Nat.add_mul] at hmul
              have hN1 : New.length = n * i.size := by rw [hnl, hlen]
              have hin : L.base + (off + len * i.size) + 0 + New.length ≤ C.size := by rw [hCs]; omega
              have hone : ∀ V ∈ New, V.oneCell' = true := allOne_rel hr (by rw [← allSure_eq]; exact hsure)
              have hnf : ∀ j, L.base + (off + len * i.size) + 0 ≤ j → j < L.base + (off + len * i.size) + 0 + New.length → ¬ (q.1 ≤ j ∧ j < q.2) := by
                intro j hj1 hj2 hj
                rcases hFz j hj.1 hj.2 with h' | h'
                · omega
                · omega
              have hst := run_storeCells (P := P) (B := L.B) (o := L.base + (off + len * i.size)) New 0 w C hO hin hone hnf
              unfold grown
              refine cond_ok (fun _ => ?_) (fun _ => trivial)
              have hfun : (fun b h => forceN (len + n) (fun m => Res.val (.slice b 0 m (.more i.size)) h)) = (fun (b : Key) (h : Heap) => Res.val (.slice b 0 (len + n) (.more i.size)) h) := by funext b h; rw [forceN_eq]
              rw [hfun]
              have hlen' : (C.toList.take (L.base + (off + len * i.size) + 0) ++ New ++ C.toList.drop (L.base + (off + len * i.size) + 0 + New.length)).length = L.total := by
                simp only [List.length_append, List.length_take, List.length_drop, Array.length_toList, hCs]
                rw [hCs] at hin; omega
              refine move_ok hs hb hg rfl (w' := setBlock w L.B (.cells (C.toList.take (L.base + (off + len * i.size) + 0) ++ New ++ C.toList.drop (L.base + (off + len * i.size) + 0 + New.length)).toArray el q)) (L' := ⟨L.B, L.base + off, L.total⟩) rfl hN rfl rfl (by simp [setBlock]) (fun k hk => setBlock_other hk) (setBlock_at hltB) ?_ ?_
              · exact fun b' hn => ⟨hN, _, q, rfl, by simpa using hlen', fun j h1 h2 => by rcases hFz j h1 h2 with h' | h' <;> first | (left; show j < L.base + off + (fz - off); omega) | (right; exact h'), ⟨by
                    show L.base + off + _ ≤ _
                    rw [halll, List.size_toArray, hlen', Nat.add_mul]; omega, by
                    refine RelL.mono (Rho.sub_add hn) ?_
                    show RelL ρ _ ((List.drop (L.base + off) _).take _)
                    rw [halll]
                    have e1 : (C.toList.take (L.base + (off + len * i.size) + 0) ++ New ++ C.toList.drop (L.base + (off + len * i.size) + 0 + New.length)).drop (L.base + off) = (C.toList.drop (L.base + off)).take (len * i.size) ++ (New ++ C.toList.drop (L.base + (off + len * i.size) + 0 + New.length)) := by
                      rw [List.append_assoc, List.drop_append_of_le_length (by simp only [List.length_take, Array.length_toList]; rw [hCs] at hin ⊢; omega)]
                      congr 1
                      rw [List.drop_take]
                      congr 1
                      omega
                    rw [e1, ← List.append_assoc]
                    have e2 : ((C.toList.drop (L.base + off)).take (len * i.size) ++ New).length = (len + n) * i.size := by
                      simp only [List.length_append, List.length_take, List.length_drop, Array.length_toList, hN1, Nat.add_mul]
                      rw [hCs] at hin ⊢; omega
                    have e4 : ∀ (A B : List Value) (m : Nat), A.length = m → (A ++ B).take m = A := by
                      intro A B m hm; subst hm; simp
                    rw [e4 _ _ _ e2]
                    refine RelL.append ?_ hr
                    have := (hC.2.drop off).take (len * i.size)
                    have e3 : ((((C.toList.drop L.base).take cs.length).drop off).take (len * i.size)) = (C.toList.drop (L.base + off)).take (len * i.size) := by
                      rw [List.drop_take, List.take_take, List.drop_drop]
                      congr 1
                      omega
                    rw [e3] at this
                    exact this⟩, fun e => (by cases e), fun _ e => (by cases e)⟩
              · intro b' h' hsub hk hs'
                exact ⟨_, _, _, hsub, hk, hs', Rel.sliceMore b' 0 (len + n) c i.size ⟨L.B, L.base + off, L.total⟩ (Rho.add_same _ _ _) hcn (by simpa using htot), by simpa using hplace _ hcn hst⟩
  cases hS with
  | nilSlice =>
    dsimp only [appendA]
    refine cond_ok (fun hn0 => ?_) (fun hn0 => ?_)
    · have hn0 := Nat.eq_of_beq_eq_true hn0
      refine here hs .nilSlice ?_
      have := run_append_place (ty := ty) (w := w) (w' := w) (base := none) (len := 0) (c := 0) h0 h1 hu hi ht1 (hl w) hf0 (by omega) rfl
      rw [hn0] at this
      exact this
    · have hnpos : n ≠ 0 := by intro e0; subst e0; simp at hn0
      refine cond_ok (fun hsure => ?_) (fun _ => trivial)
      refine grown_ok (c := 0) (Kept.refl _ _) hs hi hZ hZs hr hlen ?_
      intro b1 b2
      have := run_append_grow (ty := ty) (Old := []) (base := none) (len := 0) (c := 0) (w := w) h0 h1 hu hi hZ ht1 hl hf1 (by simp [Builtin.firstCells]) (by omega) (by simpa using b1) (by simpa using b2)
      simpa using this
  | sliceIs b off len c L hb => exact slc b off len _ c L hb rfl (.sliceIs b off len c L hb) rfl
  | sliceMore b off len c sz L hb hc ht => exact slc b off len _ c L hb rfl (.sliceMore b off len c sz L hb hc ht) ⟨hc, ht⟩
  | _ => exact trivial
end
end Go.VM
namespace Go.VM
section
variable {P : Program} {w0 : World} {ρ : Rho} {h : Heap} {w : World}
theorem liesAt_at {e : TypeId} (hc : P.cellsOf e = 1) (count off n : Nat) (hn : off + n ≤ count) : liesAt P P.depth e count off e n = true := by
  have hd : P.depth = (2 * (P.types.size + Made.depth) + 1) + 1 := rfl
  rw [hd]
  simp only [liesAt, Bool.or_eq_true]
  left
  rw [hd]
  simp [rowAt, hc, hn, sameLayout, Nat.mod_one]
theorem freeze_eq {B o n : Nat} {C : Array Value} {e : TypeId} {q : Nat × Nat} (hO : w.heap[B]? = some (.cells C e q)) (hn : n ≠ 0) : ∃ q', w.freeze ⟨B, o, none⟩ n = setBlock w B (.cells C e q') := by
  have hB : B < w.heap.size := (Array.getElem?_eq_some_iff.1 hO).1
  have hv : w.heap[B] = .cells C e q := (Array.getElem?_eq_some_iff.1 hO).2
  refine ⟨(if q.1 == q.2 then (o, o + n) else (min q.1 o, max q.2 (o + n))), ?_⟩
  unfold World.freeze setBlock
  rw [if_neg hn]
  congr 1
  apply Array.ext_getElem?
  intro i
  simp only [Array.getElem?_modify, Array.getElem?_setIfInBounds]
  by_cases hi : B = i
  · subst hi; simp [hB, hv]
  · simp [hi]
theorem xUnsafeString_ok (hs : Sim w0 ρ h w) {pt ty : Nat} {ts : Array Nat} {b : Key} {off n : Nat} {L : Loc} {k : IntKind} (h0 : ts[0]? = some pt) (hb : ρ b = some L) :
    ValOk P w0 ρ h w (Builtin.unsafeString_ ts ty #[.pointer (some ⟨L.B, L.base + off, none⟩), .int k (Int.ofNat n)]) (xUnsafeString P pt b off n h) := by
  unfold xUnsafeString
  split
  · rename_i u e cs opn fz hu hg
    refine cond_ok (fun hc => ?_) (fun _ => trivial)
    simp only [Bool.and_eq_true] at hc
    obtain ⟨⟨hue, hby⟩, hsz, hn⟩ := hc
    have hue := Nat.eq_of_beq_eq_true hue
    have hsz := Nat.eq_of_beq_eq_true hsz
    have hn : n ≠ 0 := by intro e0; subst e0; simp at hn
    subst hue
    cases hc : cellsAt h b off n with
    | none => exact trivial
    | some bs =>
      dsimp only
      refine cond_ok (fun hab => ?_) (fun _ => trivial)
      obtain ⟨o, ho, hlt, hr⟩ := hs.obj b L hb
      rw [hg] at ho; cases ho
      obtain ⟨hN, C, q, hO, htot, _, hC, _, _⟩ := hr
      have hbs : bs = (cs.drop off).take n ∧ off + n ≤ cs.length := by
        have hcs : cellsOf (h.get b) = some cs := by rw [hg]; rfl
        unfold cellsAt at hc; rw [hcs] at hc; simp only [take_eq, drop_eq, len_eq] at hc
        cases hlb : Nat.beq ((cs.drop off).take n).length n with
        | false => rw [hlb] at hc; cases hc
        | true =>
          rw [hlb] at hc
          have h1 := Nat.eq_of_beq_eq_true hlb
          have h2 : (cs.drop off).take n = bs := by simpa using hc
          exact ⟨h2.symm, by simp at h1; omega⟩
      have hrel := (hC.2.drop off).take n
      rw [← hbs.1] at hrel
      obtain ⟨ns, e1, e2, e3⟩ := allByte_rel hrel hab
      have hbl : bs.length = n := (cellsAt_prefix hc (Nat.le_refl _)).1
      have hnl : ns.length = n := by omega
      unfold strV
      rw [forceN_eq, forceN_eq]
      refine cond_ok (fun hlong => ?_) (fun _ => trivial)
      have hlong := Nat.le_of_ble_eq_true hlong
      rw [e2]
      have hlt2 := bytesCode_lt ns
      obtain ⟨q', hq'⟩ := freeze_eq (o := L.base + off) hO hn
      have hcell : ∀ j x, ns[j]? = some x → w.cell? ((⟨L.B, L.base + off, none⟩ : Addr).add j) = some (.int .u8 x.toNat) := by
        intro j x hx
        rw [addr_add]
        have hjn : j < n := by rw [← hnl]; exact (List.getElem?_eq_some_iff.1 hx).1
        have hX : ((((C.toList.drop L.base).take cs.length).drop off).take n)[j]? = some (.int .u8 x.toNat) := by rw [e1]; simp [hx]
        rw [List.getElem?_take, if_pos hjn, List.getElem?_drop, List.getElem?_take, if_pos (by omega), List.getElem?_drop] at hX
        simp only [World.cell?, hO]
        simpa using hX
      have hlb := Lib.run_loadBytes (P := P) w ns ⟨L.B, L.base + off, none⟩ .empty hcell
      rw [hnl] at hlb
      have hsz' : P.cellsOf u = 1 := hsz
      have hlies := liesAt_at (P := P) hsz' (C.size / P.cellsOf u) (L.base + off) n (by rw [hsz']; have := hC.1; have := hbs.2; simp; omega)
      have hstr : (⟨ByteArray.empty.data ++ ns.toArray⟩ : ByteArray) = strOf n (bytesCode ns) := by rw [← hnl, ← str_of_bytes ns]; simp
      rw [hstr] at hlb
      refine ⟨ρ, .string (strOf n (bytesCode ns)), setBlock w L.B (.cells C u q'), Sub.refl _, kept_put hb, ?_, .str n _ (by rw [← hnl]; exact hlt2), ?_⟩
      · exact hs.put hb hg rfl hN rfl rfl (by simp [setBlock]) (fun k hk => setBlock_other hk) (setBlock_at hlt) ⟨C, q', ⟨_, rfl⟩, htot, hC⟩
      · have hmax : ¬ ((n : Int) > IntKind.i64.max) := by show ¬ (n : Int) > 9223372036854775807; omega
        have hneg : ¬ ((n : Int) < 0) := by omega
        have hsh : w.shape? L.B = some (u, C.size) := by simp [World.shape?, hO]
        rw [← hq']
        have hdef : Builtin.unsafeString_ ts ty #[.pointer (some ⟨L.B, L.base + off, none⟩), .int k (Int.ofNat n)] = (do
            let m ← asInt (.int k (Int.ofNat n))
            let some pt := ts[0]? | stuck "unsafe.String: no argument types"
            if m < 0 then runtimePanic (.error "unsafe.String: len out of range")
            if m > IntKind.i64.max then unsupported (.unsafePointer "String: a length above the largest int")
            if m = 0 then pure (.string .empty)
            else if ← variablesAt ⟨L.B, L.base + off, none⟩ (← elemOf pt) m.toNat then do
              let s ← loadBytes ⟨L.B, L.base + off, none⟩ .empty m.toNat
              freeze ⟨L.B, L.base + off, none⟩ m.toNat
              pure (.string s)
            else unsupported (.unsafePointer "String: not so many bytes at ptr")) := rfl
        rw [hdef]
        simp only [h0, Sem.run_bind, run_asInt, Result.andThen_ok]
        have e5 : (Int.ofNat n) = (n : Int) := rfl
        simp [hn, variablesAt, hsh, elemOf, run_underlying' hu, hlies, hlb]
        rw [if_neg hneg, if_neg (by omega)]
  · exact trivial
theorem run_unsafeString_zero {ts : Array Nat} {pt ty : Nat} {k : IntKind} (h0 : ts[0]? = some pt) (p : Option Addr) : (Builtin.unsafeString_ ts ty #[.pointer p, .int k (Int.ofNat 0)]).run P w = .ok (.string .empty) w := by
  have hmax : ¬ ((0 : Int) > IntKind.i64.max) := by show ¬ (0 : Int) > 9223372036854775807; omega
  cases p with
  | none =>
    have hdef : Builtin.unsafeString_ ts ty #[.pointer none, .int k (Int.ofNat 0)] = (do
        let m ← asInt (.int k (Int.ofNat 0))
        let some _ := ts[0]? | stuck "unsafe.String: no argument types"
        if m < 0 then runtimePanic (.error "unsafe.String: len out of range")
        if m > IntKind.i64.max then unsupported (.unsafePointer "String: a length above the largest int")
        if m = 0 then pure (.string .empty)
        else runtimePanic (.error "unsafe.String: ptr is nil and len is not zero")) := rfl
    rw [hdef]
    simp only [h0, Sem.run_bind, run_asInt, Result.andThen_ok]
    simp
  | some a =>
    have hdef : Builtin.unsafeString_ ts ty #[.pointer (some a), .int k (Int.ofNat 0)] = (do
        let m ← asInt (.int k (Int.ofNat 0))
        let some pt := ts[0]? | stuck "unsafe.String: no argument types"
        if m < 0 then runtimePanic (.error "unsafe.String: len out of range")
        if m > IntKind.i64.max then unsupported (.unsafePointer "String: a length above the largest int")
        if m = 0 then pure (.string .empty)
        else if ← variablesAt a (← elemOf pt) m.toNat then do
          let s ← loadBytes a .empty m.toNat
          freeze a m.toNat
          pure (.string s)
        else unsupported (.unsafePointer "String: not so many bytes at ptr")) := rfl
    rw [hdef]
    simp only [h0, Sem.run_bind, run_asInt, Result.andThen_ok]
    simp
theorem xUString_ok (hs : Sim w0 ρ h w) {pt ty : Nat} {ts : Array Nat} {p n : AV} {Pv Nv : Value} (h0 : ts[0]? = some pt) (hp : Rel ρ p Pv) (hn : Rel ρ n Nv) : ValOk P w0 ρ h w (Builtin.unsafeString_ ts ty #[Pv, Nv]) (xUString P pt p n h) := by
  cases hn with
  | int k m =>
    cases m with
    | negSucc m => exact trivial
    | ofNat m =>
      dsimp only [xUString]
      refine cond_ok (fun hm => ?_) (fun hm => ?_)
      · have hm := Nat.eq_of_beq_eq_true hm
        subst hm
        cases hp with
        | nilPtr => exact here hs (.str 0 0 (by decide)) (run_unsafeString_zero h0 none)
        | ptr b off L hb => exact here hs (.str 0 0 (by decide)) (run_unsafeString_zero h0 _)
        | _ => exact trivial
      · cases hp with
        | ptr b off L hb => exact xUnsafeString_ok hs h0 hb
        | _ => exact trivial
  | _ => exact trivial
theorem xSliceData_ok (hs : Sim w0 ρ h w) {ty : Nat} {ts : Array Nat} {x : AV} {X : Value} (hx : Rel ρ x X) : ValOk P w0 ρ h w (Builtin.unsafeSliceData_ ts ty #[X]) (xSliceData x h) := by
  cases hx with
  | nilSlice => exact here hs .nilPtr rfl
  | sliceIs b off len c L hb =>
    refine cond_ok (fun _ => trivial) (fun hc => ?_)
    have hc : c ≠ 0 := by intro e; subst e; simp at hc
    exact here hs (.ptr b off L hb) (Lib.run_unsafeSliceData_row w ts ty _ len c hc)
  | sliceMore b off len c sz L hb h1 h2 =>
    refine cond_ok (fun _ => trivial) (fun hc => ?_)
    have hc : len ≠ 0 := by intro e; subst e; simp at hc
    exact here hs (.ptr b off L hb) (Lib.run_unsafeSliceData_row w ts ty _ len c (by omega))
  | _ => exact trivial
theorem xMin_ok (hs : Sim w0 ρ h w) {ty : Nat} {ts : Array Nat} {x y : AV} {X Y : Value} (hx : Rel ρ x X) (hy : Rel ρ y Y) : ValOk P w0 ρ h w (Builtin.min_ ts ty #[X, Y]) (xMin x y h) := by
  cases hx with
  | int k a => cases hy with
    | int k' b =>
      dsimp only [xMin]
      rw [intLt_eq]
      refine cond_ok (fun hc => ?_) (fun hc => ?_)
      · have hc : b < a := by simpa using hc
        exact here hs (.int k b) (by simp [Builtin.min_, Builtin.min2, hc])
      · have hc : ¬ b < a := by simpa using hc
        exact here hs (.int k a) (by simp [Builtin.min_, Builtin.min2, hc])
    | _ => exact trivial
  | _ => exact trivial
theorem xMax_ok (hs : Sim w0 ρ h w) {ty : Nat} {ts : Array Nat} {x y : AV} {X Y : Value} (hx : Rel ρ x X) (hy : Rel ρ y Y) : ValOk P w0 ρ h w (Builtin.max_ ts ty #[X, Y]) (xMax x y h) := by
  cases hx with
  | int k a => cases hy with
    | int k' b =>
      dsimp only [xMax]
      rw [intLt_eq]
      refine cond_ok (fun hc => ?_) (fun hc => ?_)
      · have hc : a < b := by simpa using hc
        exact here hs (.int k b) (by simp [Builtin.max_, Builtin.max2, hc])
      · have hc : ¬ a < b := by simpa using hc
        exact here hs (.int k a) (by simp [Builtin.max_, Builtin.max2, hc])
    | _ => exact trivial
  | _ => exact trivial
theorem isSlT_iff {t : Nat} (ht : isSlT P t = true) : ∃ e, P.underlying t = some (.slice e) := by
  unfold isSlT at ht
  cases hu : P.underlying t with
  | none => simp [hu] at ht
  | some d => cases d <;> simp [hu] at ht; exact ⟨_, rfl⟩
theorem xCap_ok (hs : Sim w0 ρ h w) {t ty : Nat} {ts : Array Nat} {x : AV} {X : Value} (h0 : ts[0]? = some t) (hx : Rel ρ x X) : ValOk P w0 ρ h w (Builtin.cap_ ts ty #[X]) (xCap P t x h) := by
  unfold xCap
  refine cond_ok (fun ht => ?_) (fun _ => trivial)
  obtain ⟨e, hu⟩ := isSlT_iff ht
  cases hx with
  | nilSlice => exact here hs (.int .i64 _) (by simp [Builtin.cap_, h0, run_underlying' hu, goInt])
  | sliceIs b off len c L hb => exact here hs (.int .i64 _) (by simp [Builtin.cap_, h0, run_underlying' hu, goInt])
  | _ => exact trivial
theorem xClear_ok (hs : Sim w0 ρ h w) {t ty : Nat} {ts : Array Nat} {x : AV} {X : Value} (h0 : ts[0]? = some t) (hx : Rel ρ x X) : ValOk P w0 ρ h w (Builtin.clear_ ts ty #[X]) (xClear P t x h) := by
  unfold xClear
  refine cond_ok (fun ht => ?_) (fun _ => trivial)
  unfold known at ht
  cases hu : P.underlying t with
  | none => simp [hu] at ht
  | some d =>
    cases hx with
    | nilMap => exact here hs .undef (by cases d <;> simp [Builtin.clear_, h0, run_underlying' hu])
    | nilSlice => exact here hs .undef (by cases d <;> simp [Builtin.clear_, h0, run_underlying' hu])
    | emptyS a c => exact here hs .undef (by cases d <;> simp [Builtin.clear_, h0, run_underlying' hu])
    | map m L hm =>
      dsimp only
      cases hg : h.get m with
      | none => exact trivial
      | some o =>
        cases o with
        | map es clock =>
          obtain ⟨_, hlt, E, hO, hE⟩ := map_obj hs hm hg
          refine ⟨ρ, .tuple #[], _, Sub.refl _, kept_put hm, put_map hs hm hg (E' := #[]) .nil, .undef, ?_⟩
          cases d <;> simp [Builtin.clear_, h0, run_underlying' hu, run_getObj hO (by simp), run_setObj hO (by simp)]
        | _ => exact trivial
    | _ => exact trivial
theorem xCopy_ok (_hP : TypesOk P) (hs : Sim w0 ρ h w) {t ty : Nat} {ts : Array Nat} {d x : AV} {D X : Value} (h0 : ts[0]? = some t) (hd : Rel ρ d D) (hx : Rel ρ x X) : ValOk P w0 ρ h w (Builtin.copy_ ts ty #[D, X]) (xCopy P t d x h) := by
  unfold xCopy
  cases hu : P.underlying t with
  | none => exact trivial
  | some ds =>
    cases ds with
    | slice e =>
      dsimp only
      refine cond_ok (fun hp => ?_) (fun _ => trivial)
      obtain ⟨i, hi⟩ := pos_info hp
      rw [szOf_eq hi]
      exact sliceCells_ok hs hx fun n cs Cs hr hlen hl hf => copyTo_ok (_x := x) hs h0 hu hi hd hr hlen (hl w) (fun m hm => hf m hm w rfl)
    | _ => exact trivial
theorem xAppend_ok (hP : TypesOk P) (hs : Sim w0 ρ h w) {t t1 ty : Nat} {ts : Array Nat} {d x : AV} {D X : Value} (h0 : ts[0]? = some t) (h1 : ts[1]? = some t1) (hd : Rel ρ d D) (hx : Rel ρ x X) : ValOk P w0 ρ h w (Builtin.append_ ts ty #[D, X]) (xAppend P t t1 d x h) := by
  unfold xAppend
  cases hu : P.underlying t with
  | none => exact trivial
  | some ds =>
    cases ds with
    | slice e =>
      dsimp only
      refine cond_ok (fun hp => ?_) (fun _ => trivial)
      rw [Bool.and_eq_true, Bool.and_eq_true] at hp
      obtain ⟨i, hi⟩ := pos_info hp.1.1
      have hpos : 0 < i.size := by
        have := hp.1.1
        unfold posT at this
        rw [szOf_eq hi] at this
        rcases Nat.eq_zero_or_pos i.size with h' | h'
        · rw [h'] at this; simp at this
        · exact h'
      rw [szOf_eq hi]
      refine sliceCells_ok hs hx fun n cs Cs hr hlen hl hf => appendA_ok hP hs h0 h1 hu hi hpos hp.1.2 hp.2 hd hr hlen hl (fun w' hw' => ?_)
      have := hf n (Nat.le_refl _) w' hw'
      rw [List.take_of_length_le (by rw [hr.length, hlen]; exact Nat.le_refl _)] at this
      exact this
    | _ => exact trivial
end
end Go.VM
namespace Go.VM
section
variable {P : Program} {w0 : World} {ρ : Rho} {h : Heap} {w : World}
theorem rel2 {x y : AV} {A : List Value} (hr : RelL ρ [x, y] A) : ∃ X Y, A = [X, Y] ∧ Rel ρ x X ∧ Rel ρ y Y := by
  cases hr with
  | cons _ X _ _ hx hr => cases hr with
    | cons _ Y _ _ hy hr => cases hr; exact ⟨X, Y, rfl, hx, hy⟩
theorem rel1 {x : AV} {A : List Value} (hr : RelL ρ [x] A) : ∃ X, A = [X] ∧ Rel ρ x X := by
  cases hr with
  | cons _ X _ _ hx hr => cases hr; exact ⟨X, rfl, hx⟩
theorem one1_ok {args : List AV} {A : List Value} (hr : RelL ρ args A) {k : AV → Res} {s : Sem Next} (hk : ∀ x X, Rel ρ x X → A = [X] → NextOk P w0 ρ h w s (k x)) : NextOk P w0 ρ h w s (one1 args k) := by
  unfold one1
  split
  · obtain ⟨X, e, hx⟩ := rel1 hr; exact hk _ X hx e
  · exact trivial
theorem two2_ok {args : List AV} {A : List Value} (hr : RelL ρ args A) {k : AV → AV → Res} {s : Sem Next} (hk : ∀ x y X Y, Rel ρ x X → Rel ρ y Y → A = [X, Y] → NextOk P w0 ρ h w s (k x y)) : NextOk P w0 ρ h w s (two2 args k) := by
  unfold two2
  split
  · obtain ⟨X, Y, e, hx, hy⟩ := rel2 hr; exact hk _ _ X Y hx hy e
  · exact trivial
theorem withT_ok {ts : Array Nat} {k : Nat → Res} {s : Sem Next} (hk : ∀ t, ts[0]? = some t → NextOk P w0 ρ h w s (k t)) : NextOk P w0 ρ h w s (withT ts.toList k) := by
  unfold withT
  split
  · rename_i t r e; exact hk t (by rw [← Array.getElem?_toList, e]; rfl)
  · exact trivial
theorem xBuiltin_ok (hP : TypesOk P) (hs : Sim w0 ρ h w) {b : Builtin} {ts : Array Nat} {ty : Nat} {cst : Array Bool} {args : List AV} {A : List Value} (hr : RelL ρ args A) : NextOk P w0 ρ h w (builtin b ts ty cst ⟨A⟩) (xBuiltin P b ts.toList args h) := by
  cases b with
  | len => exact one1_ok hr fun x X hx e => withT_ok fun t h0 => by subst e; exact next_of_val (xLen_ok hs h0 hx)
  | append =>
    refine two2_ok hr fun x y X Y hx hy e => ?_
    subst e
    unfold xAppend2
    split
    · rename_i t t1 r e
      exact next_of_val (xAppend_ok hP hs (t := t) (t1 := t1) (by rw [← Array.getElem?_toList, e]; rfl) (by rw [← Array.getElem?_toList, e]; rfl) hx hy)
    · exact trivial
  | copy => exact two2_ok hr fun x y X Y hx hy e => withT_ok fun t h0 => by subst e; exact next_of_val (xCopy_ok hP hs h0 hx hy)
  | delete => exact two2_ok hr fun x y X Y hx hy e => withT_ok fun t h0 => by subst e; exact next_of_val (xDelete_ok hP hs h0 hx hy)
  | recover => exact ⟨rfl, rfl⟩
  | min => exact two2_ok hr fun x y X Y hx hy e => by subst e; exact next_of_val (xMin_ok hs hx hy)
  | max => exact two2_ok hr fun x y X Y hx hy e => by subst e; exact next_of_val (xMax_ok hs hx hy)
  | cap => exact one1_ok hr fun x X hx e => withT_ok fun t h0 => by subst e; exact next_of_val (xCap_ok hs h0 hx)
  | clear => exact one1_ok hr fun x X hx e => withT_ok fun t h0 => by subst e; exact next_of_val (xClear_ok hs h0 hx)
  | unsafeString => exact two2_ok hr fun x y X Y hx hy e => withT_ok fun t h0 => by subst e; exact next_of_val (xUString_ok hs h0 hx hy)
  | unsafeSliceData => exact one1_ok hr fun x X hx e => by subst e; exact next_of_val (xSliceData_ok hs hx)
  | _ => exact trivial
/-- the operands, on both sides -/
def EvRel (P : Program) (ρ : Rho) (T : Slots) (E : Operand → Value) : Prop := ∀ x, Rel ρ (ev P T x) (E x)
theorem evs_rel {T : Slots} {E : Operand → Value} (hE : EvRel P ρ T E) : ∀ xs : List Operand, RelL ρ (evs P T xs) (xs.map E)
  | [] => .nil
  | x :: r => .cons _ _ _ _ (hE x) (evs_rel hE r)
theorem evps_rel {T : Slots} {E : Operand → Value} (hE : EvRel P ρ T E) : ∀ xs : List (Nat × Operand), PartsRel ρ (evps P T xs) (xs.map fun p => (p.1, E p.2))
  | [] => ⟨rfl, fun i hi => by simp [evps] at hi⟩
  | x :: r => by
    obtain ⟨h1, h2⟩ := evps_rel hE r
    refine ⟨by show (evps P T r).length + 1 = _; simp [h1], ?_⟩
    intro i hi hi'
    cases i with
    | zero => exact ⟨rfl, hE x.2⟩
    | succ i => exact h2 i (by have : i + 1 < (evps P T r).length + 1 := hi; omega) (by simpa using hi')
theorem omap_rel {T : Slots} {E : Operand → Value} (hE : EvRel P ρ T E) (x : Option Operand) : ORel ρ (omap P T x) (x.map E) := by
  cases x with
  | none => exact trivial
  | some x => exact hE x
theorem xCallV_ok {f : AV} {F : Value} {args : List AV} {A : List Value} (hf : Rel ρ f F) (hr : RelL ρ args A) : NextOk P w0 ρ h w (do let d ← Deferred.ofValue F ⟨A⟩; invoke d.target d.args) (xCallV f args h) := by
  cases hf with
  | func g a b A1 B1 ha hb =>
    refine ⟨rfl, A1 ++ (A ++ B1), by simp only [cat_eq]; exact ha.append (hr.append hb), ?_⟩
    simp [Deferred.ofValue, invoke]
  | yield l L hl =>
    refine ⟨rfl, L, A, hl, hr, ?_⟩
    simp [Deferred.ofValue, invoke]
  | _ => exact trivial
end
end Go.VM
namespace Go.VM
section
variable {P : Program} {w0 : World} {ρ : Rho} {h : Heap} {w : World}
theorem NextOk.congr {s s' : Sem Next} {r : Res} (e : s.run P w = s'.run P w) (hr : NextOk P w0 ρ h w s r) : NextOk P w0 ρ h w s' r := by
  cases r <;> dsimp only [NextOk] at hr ⊢ <;> first | (rw [← e]; exact hr) | exact trivial
theorem xCall_ok (hP : TypesOk P) (hs : Sim w0 ρ h w) {T : Slots} {E : Operand → Value} (hE : EvRel P ρ T E) {c : Call} {ty : TypeId} : NextOk P w0 ρ h w (do let d ← resolve E c ty; invoke d.target d.args) (xCall P c T h) := by
  obtain ⟨callee, ⟨args⟩, ts⟩ := c
  cases callee with
  | value f =>
    refine NextOk.congr ?_ (xCallV_ok (P := P) (w0 := w0) (h := h) (w := w) (hE f) (evs_rel hE args))
    simp [resolve]
  | invoke r n => exact trivial
  | builtin b =>
    refine NextOk.congr ?_ (xBuiltin_ok (w := w) (h := h) hP hs (b := b) (ts := ts) (ty := ty) (cst := (args.toArray).map fun | .const _ => true | _ => false) (evs_rel hE args))
    simp [resolve, invoke]
    rfl
theorem xDefer_ok {T : Slots} {E : Operand → Value} (hE : EvRel P ρ T E) {c : Call} {ty : TypeId} : NextOk P w0 ρ h w (do pure (.defer (← resolve E c ty))) (xDefer P c T h) := by
  obtain ⟨callee, ⟨args⟩, ts⟩ := c
  cases callee with
  | value f =>
    show NextOk P w0 ρ h w _ (match ev P T f with
      | .func (.func g) first cap => .defer ⟨.func g, cap, cat first (evs P T args)⟩ h
      | _ => .bad "defer")
    have hf := hE f
    generalize ev P T f = fa at hf
    generalize hFe : E f = F at hf
    cases hf with
    | func g a b A1 B1 ha hb =>
      refine ⟨rfl, _, .fn g b (cat a (evs P T args)) B1 (A1 ++ args.map E) hb (by rw [cat_eq]; exact ha.append (evs_rel hE args)), ?_⟩
      simp [resolve, hFe, Deferred.ofValue]
    | _ => exact trivial
  | invoke r n => exact trivial
  | builtin b => exact trivial
theorem execA_ok (hP : TypesOk P) (hs : Sim w0 ρ h w) {T : Slots} {E : Operand → Value} (hE : EvRel P ρ T E) (o : Oper) : NextOk P w0 ρ h w (execOp E o) (execA P o.op T h) := by
  obtain ⟨dst, op, type, after, guard, pos⟩ := o
  cases op with
  | move x => exact ⟨ρ, w, Sub.refl _, Kept.refl _ _, hs, .inl ⟨E x, hE x, rfl⟩⟩
  | assign x => exact ⟨ρ, w, Sub.refl _, Kept.refl _ _, hs, .inl ⟨E x, hE x, rfl⟩⟩
  | pick c a b => 
    refine NextOk.congr ?_ (next_of_val (xPick_ok (P := P) hs (hE c) (hE a) (hE b)))
    simp [execOp]
  | alloc e => exact next_of_val (xAlloc_ok hs)
  | box e x => exact next_of_val (xBox_ok hs (hE x))
  | build t ps =>
    refine NextOk.congr ?_ (next_of_val (xBuild_ok (t := t) hP hs (evps_rel hE ps.toList)))
    rw [show (ps.toList.map fun p => (p.1, E p.2)).toArray = ps.map fun (i, x) => (i, E x) by apply Array.ext'; simp]
    rfl
  | buildSlice t n ps =>
    refine NextOk.congr ?_ (next_of_val (xBuildSlice_ok (t := t) (n := n) hs (evps_rel hE ps.toList)))
    rw [show (ps.toList.map fun p => (p.1, E p.2)).toArray = ps.map fun (i, x) => (i, E x) by apply Array.ext'; simp]
    rfl
  | insert t m k v => exact next_of_unit (xMapUpdate_ok hP hs (hE m) (hE k) (hE v))
  | load t a => exact next_of_val (xLoad_ok hs (hE a))
  | store t a x => exact next_of_unit (xStore_ok hs (hE a) (hE x))
  | ready g => exact trivial
  | waits g => exact trivial
  | nilCheck x => exact xNil_ok hs (hE x) (o := ⟨dst, .nilCheck x, type, after, guard, pos⟩) rfl rfl
  | binOp op t x y z => exact next_of_val (xBin_ok hP hs (hE x) (hE y))
  | unOp op t x => exact next_of_val (xUn_ok hs (hE x))
  | convert s d x => exact next_of_val (xConvert_ok hP hs (hE x))
  | sliceToArrayPointer t x => exact trivial
  | makeInterface t x => exact next_of_val (iface_ok hs (hE x))
  | makeFunc f a b =>
    refine NextOk.congr ?_ (next_of_val (func_ok (f := f) hs (evs_rel hE a.toList) (evs_rel hE b.toList)))
    rw [show (⟨a.toList.map E⟩ : Array Value) = a.map E by apply Array.ext'; simp, show (⟨b.toList.map E⟩ : Array Value) = b.map E by apply Array.ext'; simp]
    rfl
  | makeMap t r =>
    refine next_of_val (makeMap_ok hs ?_)
    cases r with
    | none => exact trivial
    | some x => exact hE x
  | makeChan t s => exact trivial
  | makeSlice t l c => exact next_of_val (xMakeSlice_ok hP hs (hE l) (hE c))
  | slice t x lo hi mx => exact next_of_val (xSlice_ok hP hs (hE x) (omap_rel hE lo) (omap_rel hE hi) (omap_rel hE mx))
  | fieldAddr s x f => exact next_of_val (xFieldAddr_ok hs (hE x))
  | field s x f => exact next_of_val (xField_ok hs (hE x))
  | indexAddr t x i => exact next_of_val (xIndexAddr_ok hs (hE x) (hE i))
  | index t x i => exact next_of_val (xIndexC_ok hs (hE x) (hE i))
  | lookup t x i ok => exact next_of_val (xLookup_ok hP hs (hE x) (hE i))
  | mapUpdate t m k v => exact next_of_unit (xMapUpdate_ok hP hs (hE m) (hE k) (hE v))
  | mapEntry t m k => exact trivial
  | entryStore t m k v => exact trivial
  | range t x => exact next_of_val (xRangeC_ok hs (hE x))
  | next x s => exact next_of_val (xNext_ok hs (hE x))
  | entry x => exact next_of_val (xEntry_ok hs (hE x))
  | typeAssert x t u ok => exact next_of_val (xAssert_ok hs (hE x))
  | extract x i => exact next_of_val (xExtract_ok hs (hE x))
  | call c => exact xCall_ok hP hs hE
  | go c => exact trivial
  | defer c => exact xDefer_ok hE
  | panic x => exact xPanic_ok (hE x)
  | send c x => exact trivial
  | recv t c ok => exact trivial
  | select cs b => exact trivial
end
end Go.VM
