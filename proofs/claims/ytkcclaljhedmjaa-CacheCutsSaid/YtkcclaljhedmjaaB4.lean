import Derived.Test.YtkcclaljhedmjaaB3
import Derived.Shelf.Strings.Repeat
namespace Go.Proofs.Ytkcclaljhedmjaa
open Go.RowKit Go.Maps Go.Lib
/-- append by its run -/
theorem wpList_append_run {P : Program} {w w' : World} {ops : Array Oper} {rest : List Oper} {o : Oper} {a : Act} {Q : Exit → Act → World → Prop} (hgd : o.guard = none) (s x : Operand) (t : TypeId)
    (ho : o.op = .call { callee := .builtin .append, args := #[s, x], argTypes := #[t, t] }) (ty : TypeId) (hty : o.type = ty) {v u v' : Value} (hs : a.eval s = v) (hx : a.eval x = u) (hrun : (Builtin.append_ #[t, t] ty #[v, u]).run P w = .ok v' w')
    (h : wpList P ops Q rest (a.put o.dst v') w') : wpList P ops Q (o :: rest) a w := by
  subst hty
  refine wpList_plain hgd fun K hK => ?_
  unfold Oper.wp
  simp [execOp, ho, resolve, invoke, builtin, hs, hx, hrun, Result.andThen]
  exact hK _ _ h
def WsPost (B b : Nat) (l : List UInt8) (s : ByteArray) (w : World) (e : Ending) (w' : World) : Prop :=
  e = .returned (.tuple #[.int .i64 s.size, .nilIface]) ∧ IsBuilderF 93 5 B b (byteCells (l ++ s.data.toList)) w' ∧ Below B w w' ∧ OthersKept 5 (some b) w w'
theorem ws_any (B b : Nat) (l : List UInt8) (s : ByteArray) (w : World) (h : IsBuilderF 93 5 B b (byteCells l) w) (hlen : l.length + s.size ≤ 100000) (hBw : B ≤ w.heap.size) : Calls Try.prog 56 #[.pointer (some ⟨b, 0, none⟩), .string s] w (WsPost B b l s w) := by
  have hc : Calls Try.prog 56 #[.pointer (some ⟨b, 0, none⟩), .string s] w _ := Any.Builder_WriteString_k (P := Try.prog) (ρ := Try.lays105_ren) { Try.lays105 with } builderX B b (byteCells l) s w h (by simp [byteCells]; omega) hBw
  refine hc.mono ?_
  rintro e w' ⟨rfl, hb, hk, ho⟩
  refine ⟨rfl, .inr ?_, hk, ho⟩
  have e1 : byteCells (l ++ s.data.toList) = byteCells l ++ strCells s := by simp [byteCells, strCells]
  rw [e1]; exact hb
def SPost (B b : Nat) (l : List UInt8) (w : World) (e : Ending) (w' : World) : Prop :=
  e = .returned (.string ⟨l.toArray⟩) ∧ IsBuilderF 93 5 B b (byteCells l) w' ∧ Below B w w'
theorem str_any (B b : Nat) (l : List UInt8) (w : World) (h : IsBuilderF 93 5 B b (byteCells l) w) (hBw : B ≤ w.heap.size) : Calls Try.prog 58 #[.pointer (some ⟨b, 0, none⟩)] w (SPost B b l w) :=
  Any.Builder_String_any_f (P := Try.prog) (ρ := Try.lays105_ren) { Try.lays105 with } builderX B b l w h hBw
theorem len_any (B b : Nat) (l : List UInt8) (w : World) (h : IsBuilderF 93 5 B b (byteCells l) w) : Calls Try.prog 60 #[.pointer (some ⟨b, 0, none⟩)] w (IntPost l.length w) := by
  have hc : Calls Try.prog 60 #[.pointer (some ⟨b, 0, none⟩)] w _ := Any.Builder_Len_f (P := Try.prog) (ρ := Try.lays105_ren) { Try.lays105 with } B b (byteCells l) w h
  refine hc.mono ?_
  rintro e w' ⟨rfl, rfl⟩
  exact ⟨by simp [byteCells], rfl⟩
def RepPost (c : Nat) (w : World) (e : Ending) (w' : World) : Prop := e = .returned (.string ⟨(u8s (List.replicate c 0)).toArray⟩) ∧ Below w.heap.size w w'
theorem repeatL_zero (c : Nat) : repeatL [0] c = u8s (List.replicate c 0) := by
  induction c with
  | zero => rfl
  | succ c ih => rw [repeatL, ih]; rfl
theorem rep_any (c : Nat) (hc : c ≤ 1000) (w : World) : Calls Try.prog 59 #[.string { data := #[0] }, .int .i64 c] w (RepPost c w) := by
  have h : Calls Try.prog 59 #[.string { data := #[0] }, .int .i64 c] w _ := Any.strings_Repeat (P := Try.prog) (ρ := Try.lays105_ren) Try.lays105 builderX { data := #[0] } c w (by omega) (by
    have : (ByteArray.mk #[0]).size = 1 := rfl
    rw [this]; omega)
  refine h.mono ?_
  rintro e w' ⟨rfl, hb⟩
  exact ⟨by rw [← repeatL_zero], hb⟩
def HeadPost (ks : List Nat) (w : World) (e : Ending) (w' : World) : Prop := e = .returned (.string (strB (headL ks))) ∧ Kp (fun _ => False) w w'
def mk4 : List UInt8 := [79, 74, 82, 78]
theorem kept_row {w w' : World} {b : Nat} {v : Value} {ks : List Nat} (h : IntsAt w v ks) (ho : OthersKept 5 (some b) w w') (hb : v.ownBlock ≠ some b) : IntsAt w' v ks := by
  refine h.kp fun g cur hg hc => ?_
  rw [hc]
  exact ho g _ hc (fun e => hb (hg.trans e)) (fun c fz e => by cases e)
theorem bld_kp {T e : TypeId} {B b : Nat} {bs : List Value} {w w' : World} (h : IsBuilderF T e B b bs w) (hk : Kp (fun _ => False) w w') : IsBuilderF T e B b bs w' := by
  have hg : w.grownBy w' none := ⟨hk.os, hk.tape, hk.output, hk.size, fun i hi _ => hk.block i hi (fun e => e)⟩
  have one : ∀ p, BuilderAtF T e B b p bs w → BuilderAtF T e B b p bs w' := by
    intro p h
    have hlt := h.lt
    obtain ⟨hB, v, hb, hown, hne⟩ := h
    exact ⟨hB, v, (hk.block b hlt (fun e => e)).trans hb, hown.kept hg (by cases hv : v.ownBlock <;> simp), hne⟩
  exact h.elim (fun x => .inl (one _ x)) (fun x => .inr (one _ x))
theorem ints_cell {w : World} {g n c k x : Nat} {ks : List Nat} (h : IntsAt w (.slice (some ⟨g, 0, none⟩) n c) ks) (hk : ks[k]? = some x) : w.cell? ⟨g, k, none⟩ = some (.int .i64 (x : Int)) := by
  rcases h with ⟨e, _⟩ | ⟨g, c, cur, e, _, hg, hc⟩
  · cases e
  · cases e
    refine cell_of hg k _ ((hc k (List.getElem?_eq_some_iff.1 hk).1).trans ?_)
    rw [intsC, List.getElem?_map, hk]; rfl
theorem ints_bld {w : World} {g n c B b : Nat} {ks : List Nat} {bs : List Value} (h : IntsAt w (.slice (some ⟨g, 0, none⟩) n c) ks) (hb : IsBuilderF 93 5 B b bs w) : g ≠ b := by
  rcases h with ⟨e, _⟩ | ⟨g, c, cur, e, _, hg, hc⟩
  · cases e
  · cases e
    rintro rfl
    rcases hb with ⟨_, v, hb, _⟩ | ⟨_, v, hb, _⟩ <;> rw [hg] at hb <;> cases hb
theorem head_str (ks : List Nat) (c : Nat) (hc : c = 256 - (8 + 4 * ks.length)) : ({ data := (mk4 ++ u8s (les (ks.length :: ks))).toArray } ++ { data := (u8s (List.replicate c 0)).toArray } : ByteArray) = strB (headL ks) := by
  rw [strB_u8s, headL, u8s_app, u8s_app, hc]
  apply ByteArray.ext
  rw [ByteArray.data_append]
  simp
  rfl
def HeadRel (w : World) (src2 : Value) (xs : List Nat) (k : Nat) (wr : World) : Prop :=
  IsBuilderF 93 5 w.heap.size w.heap.size (byteCells (mk4 ++ u8s (les (xs.take k)))) wr ∧ IntsAt wr src2 xs ∧ Kp (fun _ => False) w wr ∧ w.heap.size < wr.heap.size
set_option maxHeartbeats 1000000 in
set_option maxRecDepth 100000 in
theorem head_any (w : World) (src : Value) (ks : List Nat) (hk : ks.length ≤ 40) (hx : ∀ k ∈ ks, k < 65536) (hs : IntsAt w src ks) : Calls Try.prog 31 #[src] w (HeadPost ks w) := by
  obtain ⟨ao, c, rfl⟩ : ∃ ao c, src = .slice ao ks.length c := by
    rcases hs with ⟨rfl, rfl⟩ | ⟨g, c, cur, rfl, h0, hg, hc⟩
    · exact ⟨none, 0, rfl⟩
    · exact ⟨_, _, rfl⟩
  have hB0 : IsBuilderF 93 5 w.heap.size w.heap.size (byteCells []) (w.alloc (.cells #[.pointer none, .slice none 0 0] 93)) := .inl (BuilderAtF.of ⟨Nat.le_refl _, .slice none 0 0, heap_alloc_new w _, World.ownsRow_nil _ _ _ _, by simp [Value.ownBlock]⟩)
  have hW := ws_any w.heap.size w.heap.size [] { data := #[79, 74, 82, 78] } _ hB0 (by decide) (by simp)
  have hs0 : IntsAt (w.alloc (.cells #[.pointer none, .slice none 0 0] 93)) (.slice ao ks.length c) ks := hs.kp fun b cur _ hb => heap_alloc_old w _ (blk_lt hb)
  have hlt : ∀ b, (Value.slice ao ks.length c).ownBlock = some b → b < w.heap.size := by
    intro b hb
    rcases hs with ⟨e, e2⟩ | ⟨g, c, cur, e, h0, hg, hc⟩
    · rw [e] at hb; simp [Value.ownBlock] at hb
    · rw [e] at hb
      simp [Value.ownBlock] at hb
      subst hb
      exact blk_lt hg
  go_enter Try.func31, Try.ntmps31
  have hks2 : ∀ k ∈ ks.length :: ks, k < 65536 := by
    intro k hk2
    rcases List.mem_cons.1 hk2 with rfl | h
    · omega
    · exact hx k h
  go_wp2_with (first | (at_builtin; refine wpList_append_run rfl (.tmp 11) (.tmp 12) 63 rfl 63 rfl rfl rfl hrun ?_) | (go_at_call 56; refine Calls.mono hW ?_; rintro e w1 ⟨rfl, hB1, hBel1, hO1⟩; obtain ⟨g2, c2, w3, hrun, hI, hK3⟩ := app_any (w1.alloc (.cells #[.int .i64 (ks.length : Int)] 3)) w1.heap.size _ ks ks.length (heap_alloc_new w1 _) rfl hk ((kept_row hs0 hO1 (fun e => by have := hlt _ e; omega)).kp fun b cur _ hb => heap_alloc_old w1 _ (blk_lt hb))))
  have hrel0 : HeadRel w (.slice (some ⟨g2, 0, none⟩) (ks.length + 1) c2) (ks.length :: ks) 0 w3 := by
    have hz1 := hBel1.size
    simp at hz1
    refine ⟨?_, hI, (kp_belowB (kp_alloc _ w _) hBel1 (Nat.le_refl _)).trans ((kp_alloc _ w1 _).trans hK3), ?_⟩
    · exact bld_kp (bld_kp hB1 (kp_alloc _ w1 _)) hK3
    · have := hK3.size
      simp at this
      omega
  go_loopw [15] (fun i wr => ∃ k : Nat, i = .int .i64 k ∧ k ≤ ks.length + 1 ∧ HeadRel w (.slice (some ⟨g2, 0, none⟩) (ks.length + 1) c2) (ks.length :: ks) k wr) (fun i _ => ks.length + 1 - (RowKit.intOf i).toNat)
  case atStart => exact ⟨0, rfl, by omega, hrel0⟩
  case round =>
    obtain ⟨k, rfl, hkn, hB, hI2, hKp, hz⟩ := hrel
    by_cases hlt2 : k < ks.length + 1
    · have g3 : decide ((k : Int) < (ks.length : Int) + 1) = true := by simp; omega
      obtain ⟨x, hxk⟩ : ∃ x, (ks.length :: ks)[k]? = some x := ⟨_, List.getElem?_eq_getElem (by simpa using hlt2)⟩
      have hx6 := hks2 x (List.mem_of_getElem? hxk)
      have hcell := ints_cell hI2 hxk
      have hgb := ints_bld hI2 hB
      have hle := le_any x hx6 wr
      have hws := fun w' h hb => ws_any w.heap.size w.heap.size (mk4 ++ u8s (les ((ks.length :: ks).take k))) (strB (le4 x)) w' h (by
        have h1 := les_length ((ks.length :: ks).take k)
        have h2 : (List.take k (ks.length :: ks)).length ≤ k := List.length_take_le _ _
        rw [strB_size]
        simp only [List.length_append, u8s, List.length_map, mk4, List.length_cons, List.length_nil, le4] at h1 ⊢
        omega) hb
      have hu : IntKind.u64.wrap (x : Int) = x := by rw [IntKind.wrap_u64]; omega
      go_wp2_with (first | (go_at_call 57; refine Calls.mono hle ?_; rintro e w4 ⟨rfl, hK4⟩; have hws2 := hws w4 (bld_kp hB hK4) (by have := hK4.size; omega); clear hws) | (go_at_call 56; refine Calls.mono hws2 ?_; rintro e w5 ⟨rfl, hB5, hBel5, hO5⟩))
      refine ⟨⟨k + 1, by simp, by omega, ?_, ?_, ?_, ?_⟩, by simp [RowKit.intOf]; omega⟩
      · rw [List.take_add_one, hxk, Option.toList_some, les_append, u8s_app, ← List.append_assoc]
        have e1 : u8s (les [x]) = (strB (le4 x)).data.toList := by rw [strB_u8s]; simp [les]
        rw [e1]; exact hB5
      · exact kept_row (hI2.kp fun b cur _ hb => hK4.block b (blk_lt hb) (fun e => e)) hO5 (fun e => hgb (by simpa [Value.ownBlock] using e))
      · exact kp_belowB (hKp.trans hK4) hBel5 (Nat.le_refl _)
      · have := hK4.size; have := hBel5.size; omega
    · have g3 : decide ((k : Int) < (ks.length : Int) + 1) = false := by simp; omega
      obtain rfl : k = ks.length + 1 := by omega
      rw [List.take_of_length_le (by simp)] at hB
      obtain ⟨c1, he⟩ : ∃ c1 : Nat, (256 : Int) - (8 + 4 * (ks.length : Int)) = (c1 : Int) := ⟨256 - (8 + 4 * ks.length), by omega⟩
      have hLn : (mk4 ++ u8s (les (ks.length :: ks))).length = 8 + 4 * ks.length := by
        have h1 := les_length (ks.length :: ks)
        simp only [List.length_append, u8s, List.length_map, mk4, List.length_cons, List.length_nil] at h1 ⊢
        omega
      have hst := str_any w.heap.size w.heap.size _ wr hB (by omega)
      have hln := fun w' h => len_any w.heap.size w.heap.size (mk4 ++ u8s (les (ks.length :: ks))) w' h
      rw [hLn] at hln
      have hrp := rep_any c1 (by omega)
      go_wp2_with (first | (go_at_call 58; refine Calls.mono hst ?_; rintro e w6 ⟨rfl, hB6, hBel6⟩; have hln2 := hln w6 hB6; clear hln) | (go_at_call 60; refine Calls.mono hln2 ?_; rintro e w' ⟨rfl, rfl⟩) | (go_at_call 59; refine Calls.mono (hrp _) ?_; rintro e w7 ⟨rfl, hBel7⟩))
      all_goals first
        | (exfalso; have hrl : (u8s (List.replicate c1 0)).length = c1 := (by simp [u8s]); omega)
        | skip
      go_ret
      refine ⟨by rw [← head_str ks c1 (by omega)]; rfl, ?_⟩
      exact (kp_belowB hKp hBel6 (Nat.le_refl _)).trans (kp_below hBel7)
end Go.Proofs.Ytkcclaljhedmjaa
