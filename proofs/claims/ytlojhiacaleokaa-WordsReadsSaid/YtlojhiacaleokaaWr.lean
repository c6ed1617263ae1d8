/- Words: the writer. -/
import Derived.Test.YtlojhiacaleokaaPWDx0
import Derived.Test.YtlojhiacaleokaaPWDx1
namespace Go.Proofs.Ytlojhiacaleokaa.PWD
open Go.RowKit Go.Proofs.YtlojhiacaleokaaW.PrintWords Go.Proofs.YtlojhiacaleokaaW.PrintLast Go.Proofs.YtlojhiacaleokaaW.PrintMore
set_option linter.unusedVariables false
set_option linter.unusedSimpArgs false
/-- A writer of the words xs, at the block g. -/
def Wr (w : World) (base g : Nat) (xs : List Int) : Prop := ∃ v, w.heap[g]? = some (.cells #[v] 35 (0, 0)) ∧ base ≤ g ∧ Kd.R (Kd.int .u64) 44 w base (fun _ => True) v xs
set_option maxHeartbeats 2000000 in
theorem num_calls (base g : Nat) (xs : List Int) (n : Int) (w : World) (hs : base ≤ w.heap.size) (hx : xs.length < 17592186044416) (HW : Wr w base g xs) :
    Calls Try.prog 15 #[.pointer (some ⟨g, 0, none⟩), .int .i64 n] w fun e w' => e = .returned (.tuple #[]) ∧ Wr w' base g (xs ++ [IntKind.u64.wrap n]) ∧ Below base w w' := by
  obtain ⟨v, hg, hb, hR⟩ := HW
  have hc : w.cell? ⟨g, 0, none⟩ = some v := blk_cell hg 0
  have HO := Aside0.mk hR
  have HG := Aside0.mk hg
  have HX := Aside0.mk hx
  have HB := Aside0.mk (Below.refl base w)
  have HS := Aside0.mk hs
  have HBG := Aside0.mk hb
  clear hR hg hx hs hb
  go_enter Try.func15, Try.ntmps15
  go_wp2_with (first | ((with_reducible refine gate_builtin (b := .append) (xs := #[.tmp 10, .tmp 13]) rfl ?_); at_builtin; refine Kd.R_append (Kd.int .u64) (w0 := w) base rfl (.tmp 10) (.tmp 13) 23 44 (.int .u64 0) 8 rfl Try.underlying23 info44 rfl (by decide) (by omega) v xs (IntKind.u64.wrap n) [.int .u64 (IntKind.u64.wrap n)] (fun _ => True) (fun _ => False) rfl rfl ?aP (fun _ hk => hk.elim) ?aF ?aO ?aB ?aS ?aL ?_; (case aP => exact rfl); (case aF => exact (fun _ _ => trivial)); (case aO => exact HO.out); (case aB => exact HB.out); (case aS => exact HS.out); (case aL => have := HX.out; omega); intro v1 w1 ho hb1 hg1 hat1; obtain ⟨A1, c1, ev⟩ := Kd.R_slice ho; subst ev; have HG1 := Aside0.mk (blk_grown HG.out hg1 (Kd.R_ne HO.out HG.out (by decide))); have hc1 : w1.cell? ⟨g, 0, none⟩ = some v := blk_cell HG1.out 0; have hf1 := blk_frozen HG1.out 0; have HO1 := Aside0.mk ho; have HB1 := Aside0.mk hb1; clear ho hb1 hg1 hat1))
  go_end0
  have hl : (xs ++ [IntKind.u64.wrap n]).length = xs.length + 1 := by simp
  have HO2 := HO1.out
  rw [hl] at HO2
  refine ⟨rfl, ⟨_, blk_set HG1.out 0 _, HBG.out, Kd.R_set HO2 HG1.out (by decide) 0 _⟩, HB1.out.setCell HBG.out _⟩
set_option maxHeartbeats 4000000 in
theorem text_calls (base g k : Nat) (xs : List Int) (s : ByteArray) (P : List Int) (w : World) (hs : base ≤ w.heap.size) (hx : xs.length + P.length + 2 < 17592186044416) (hz : s.size ≤ 9223372036854775807) (hP : words_Pack.f k (bytesOf s) = some P) (HW : Wr w base g xs) :
    Calls Try.prog 14 #[.pointer (some ⟨g, 0, none⟩), .string s] w fun e w' => e = .returned (.tuple #[]) ∧ Wr w' base g (xs ++ [IntKind.u64.wrap s.size] ++ P) ∧ Below base w w' := by
  have HS := Aside0.mk hs
  have HX := Aside0.mk hx
  have HZ := Aside0.mk hz
  have HP := Aside0.mk hP
  have HW0 := Aside0.mk HW
  clear hs hx hz hP HW
  go_enter Try.func14, Try.ntmps14
  go_wp2_with (go_at_call 15; (with_reducible refine (num_calls base g xs _ _ HS.out (by have := HX.out; omega) HW0.out).mono ?_); rintro e w1 ⟨rfl, hW1, hB1⟩; obtain ⟨v, hg1, hbg, hR1⟩ := hW1; have HG1 := Aside0.mk hg1; have HO1 := Aside0.mk hR1; have HB1 := Aside0.mk hB1; have HBG := Aside0.mk hbg; have hc1 : w1.cell? ⟨g, 0, none⟩ = some v := blk_cell hg1 0; clear hg1 hR1 hB1 hbg)
  have kb := fun W : World => print_bytes (P := Try.prog) 9 22 5 Try.underlying9 Try.underlying22 Try.underlying5 s W
  have HS1 : Aside0 (base ≤ w1.drew.heap.size) := ⟨Nat.le_trans HS.out HB1.out.size⟩
  have HS2 : Aside0 (base ≤ (Lib.bytesWorld w1.drew 5 s).heap.size) := ⟨Nat.le_trans HS1.out (bytes_below (Below.refl _ w1.drew) (Nat.le_refl _) 5 s).size⟩
  have hpk : Calls Try.prog 10 #[.slice (some ⟨w1.drew.heap.size, 0, none⟩) s.size (grownCap w1.drew s.size 0 5)] (Lib.bytesWorld w1.drew 5 s) fun e w' => ∃ v0_ : Value, e = .returned (v0_) ∧ Kd.R (Kd.int .u64) 44 w' (Lib.bytesWorld w1.drew 5 s).heap.size (fun _ => True) v0_ P ∧ Below (Lib.bytesWorld w1.drew 5 s).heap.size (Lib.bytesWorld w1.drew 5 s) w' := by
    have hq := words_Pack.calls k (some ⟨w1.drew.heap.size, 0, none⟩) (grownCap w1.drew s.size 0 5) (bytesOf s) P (Lib.bytesWorld w1.drew 5 s) (by rw [bytesOf_length]; exact Kd.C_of_reads (d := (0 : Int)) (h1 := fun _ => rfl) (bytes_reads w1.drew 5 s HZ.out)) (by rw [bytesOf_length]; exact grownCap_ge _ _ _ _) HP.out
    rw [bytesOf_length] at hq; exact hq
  refine start_ (n := 12) (S := fun w' => w'.cell? ⟨g, 0, none⟩ = some v) (ds := [8, 11]) #[false, false, false, false, false, false, false, false, false, false, false, false] (by kernel_rfl) rfl rfl (hc1) (fun hHeld => ?_)
  refine pure_ (i := 0) (N := some 10) (v := ?_) (a' := ?_) #[true, false, false, false, false, false, false, false, false, false, false, false] rfl rfl (by kernel_rfl) (fun _ _ _ h => h) (Or.inl ⟨by rfl, ?_⟩) ?_ ?_
  rotate_left
  · intro w'
    go_simp
    with_reducible rfl
  rotate_left
  · simp only [Act.put, List.setIfInBounds_toArray, List.set_cons_zero, List.set_cons_succ, i64_w, i32_w]
    rfl
  refine pure_ (i := 1) (N := some 11) (v := ?_) (a' := ?_) #[true, true, false, false, false, false, false, false, false, false, false, false] rfl rfl (by kernel_rfl) (fun _ _ _ h => h) (Or.inl ⟨by rfl, ?_⟩) ?_ ?_
  rotate_left
  · intro w'
    go_simp
    with_reducible rfl
  rotate_left
  · simp only [Act.put, List.setIfInBounds_toArray, List.set_cons_zero, List.set_cons_succ, i64_w, i32_w]
    rfl
  refine pure_ (i := 2) (N := some 12) (v := ?_) (a' := ?_) #[true, true, true, false, false, false, false, false, false, false, false, false] rfl rfl (by kernel_rfl) (fun _ _ _ h => h) (Or.inl ⟨by rfl, ?_⟩) ?_ ?_
  rotate_left
  · intro w'
    go_simp
    with_reducible rfl
  rotate_left
  · simp only [Act.put, List.setIfInBounds_toArray, List.set_cons_zero, List.set_cons_succ, i64_w, i32_w]
    rfl
  refine pure_ (i := 3) (N := some 13) (v := ?_) (a' := ?_) #[true, true, true, true, false, false, false, false, false, false, false, false] rfl rfl (by kernel_rfl) (fun _ _ _ h => h) (Or.inl ⟨by rfl, ?_⟩) ?_ ?_
  rotate_left
  · intro w'
    go_simp
    with_reducible rfl
  rotate_left
  · simp only [Act.put, List.setIfInBounds_toArray, List.set_cons_zero, List.set_cons_succ, i64_w, i32_w]
    rfl
  refine pure_ (i := 5) (N := some 15) (v := ?_) (a' := ?_) #[true, true, true, true, false, true, false, false, false, false, false, false] rfl rfl (by kernel_rfl) (fun _ _ _ h => h) (Or.inl ⟨by rfl, ?_⟩) ?_ ?_
  rotate_left
  · intro w'
    go_simp
    with_reducible rfl
  rotate_left
  · simp only [Act.put, List.setIfInBounds_toArray, List.set_cons_zero, List.set_cons_succ, i64_w, i32_w]
    rfl
  refine take_ (i := 4) (N := some 14) (v := ?_) (a' := ?_) #[true, true, true, true, true, true, false, false, false, false, false, false] rfl rfl (by kernel_rfl) (fun _ _ _ h => h) (Or.inl ⟨by rfl, ?_⟩) hHeld ?_ ?_
  rotate_left
  · intro w' s0
    go_simp
    with_reducible rfl
  rotate_left
  · simp only [Act.put, List.setIfInBounds_toArray, List.set_cons_zero, List.set_cons_succ, i64_w, i32_w]
    rfl
  refine one_ (i := 6) (N := some 16) #[true, true, true, true, true, true, true, false, false, false, false, false] rfl rfl (by kernel_rfl) (by decide) (fun K hK => ?_)
  refine value_ (w1 := ?_) (v := ?_) (by rfl) rfl ?_ ?_
  rotate_left 2
  · go_simp
    constructor
    · rfl
    · rfl
  refine hK.out _ _ (((bytes_below (Below.refl _ _) (Nat.le_refl _) 5 s).cell (World.block_lt_of_cell? _ _ hHeld)).trans hHeld) (fun hHeld => ?_)
  clear hK K
  refine norm_ (a' := ?_) ?_ ?_
  rotate_left
  · show Act.put _ (some 16) _ = _
    simp only [Act.put, List.setIfInBounds_toArray, List.set_cons_zero, List.set_cons_succ, i64_w, i32_w]
    rfl
  refine one_ (i := 7) (N := some 17) #[true, true, true, true, true, true, true, true, false, false, false, false] rfl rfl (by kernel_rfl) (by decide) (fun K hK => ?_)
  refine goes_ Try.func10 (by kernel_rfl) rfl #[.slice (some ⟨w1.drew.heap.size, 0, none⟩) s.size (grownCap w1.drew s.size 0 5)] (by rfl) rfl rfl (by simp only [List.map_toArray, List.map_cons, List.map_nil]; rfl) ?_
  with_reducible refine (hpk).mono ?_
  rintro e w3 ⟨v0, rfl, ho3, hb3⟩
  refine ⟨_, rfl, ?_⟩
  obtain ⟨A3, c3, e3⟩ := Kd.R_slice ho3
  subst e3
  refine hK.out _ _ ((hb3.cell (World.block_lt_of_cell? _ _ hHeld)).trans hHeld) (fun hHeld => ?_)
  clear hK K
  refine norm_ (a' := ?_) ?_ ?_
  rotate_left
  · show Act.put _ (some 17) _ = _
    simp only [Act.put, List.setIfInBounds_toArray, List.set_cons_zero, List.set_cons_succ, i64_w, i32_w]
    rfl
  refine last_ (i := 8) (N := some 18) #[true, true, true, true, true, true, true, true, true, false, false, false] rfl rfl (by kernel_rfl) (by decide) (fun K hK => ?_)
  have HG3 := Aside0.mk (blk_below (blk_below (blk_drew HG1.out) (bytes_below (Below.refl _ w1.drew) (Nat.le_refl _) 5 s)) hb3)
  have HB3 := Aside0.mk ((bytes_below (HB1.out.drew) HS1.out 5 s).trans (hb3.mono HS2.out))
  have HO3 := Aside0.mk (Kd.R_below (Kd.R_below (Kd.R_drew HO1.out) (bytes_below (Below.refl _ w1.drew) (Nat.le_refl _) 5 s)) hb3)
  refine Kd.R_append_rows_step (Kd.int .u64) (w0 := w) base (by rfl) (.tmp 14) (.tmp 17) 23 44 (.int .u64 0) 8 rfl Try.underlying23 info44 rfl (by decide) (by omega) v (xs ++ [IntKind.u64.wrap s.size]) P A3 P.length c3 (fun _ => True) (fun _ => False) rfl rfl HO3.out (Kd.R_reads' ho3).2.2 (fun _ _ h => h) (fun _ h => h.elim) (fun _ _ => trivial) HB3.out (Nat.le_trans HS2.out hb3.size) (by have := HX.out; simp only [List.length_append, List.length_cons, List.length_nil]; omega) ?_
  intro v4 w4 ho4 hb4 hg4 hat4
  obtain ⟨A4, c4, e4⟩ := Kd.R_slice ho4
  subst e4
  have HG4 := Aside0.mk (blk_grown HG3.out hg4 (Kd.R_ne HO3.out HG3.out (by decide)))
  have HO4 := Aside0.mk ho4
  have HB4 := Aside0.mk hb4
  have hc4 : w4.cell? ⟨g, 0, none⟩ = some v := blk_cell HG4.out 0
  have hf4 := blk_frozen HG4.out 0
  clear ho4 hb4 hg4 hat4
  refine hK.out _ _ ?_
  clear hK K
  refine norm_ (a' := ?_) ?_ ?_
  rotate_left
  · show Act.put _ (some 18) _ = _
    simp only [Act.put, List.setIfInBounds_toArray, List.set_cons_zero, List.set_cons_succ, i64_w, i32_w]
    rfl
  refine pure_ (i := 9) (N := some 19) (v := ?_) (a' := ?_) #[true, true, true, true, true, true, true, true, true, true, false, false] rfl rfl (by kernel_rfl) (fun _ _ _ h => h) (Or.inl ⟨by rfl, ?_⟩) ?_ ?_
  rotate_left
  · intro w'
    go_simp
    with_reducible rfl
  rotate_left
  · simp only [Act.put, List.setIfInBounds_toArray, List.set_cons_zero, List.set_cons_succ, i64_w, i32_w]
    rfl
  refine pure_ (i := 10) (N := some 20) (v := ?_) (a' := ?_) #[true, true, true, true, true, true, true, true, true, true, true, false] rfl rfl (by kernel_rfl) (fun _ _ _ h => h) (Or.inl ⟨by rfl, ?_⟩) ?_ ?_
  rotate_left
  · intro w'
    go_simp
    with_reducible rfl
  rotate_left
  · simp only [Act.put, List.setIfInBounds_toArray, List.set_cons_zero, List.set_cons_succ, i64_w, i32_w]
    rfl
  refine last_ (i := 11) (N := none) #[true, true, true, true, true, true, true, true, true, true, true, true] rfl rfl (by kernel_rfl) (by decide) (fun K hK => ?_)
  refine skip_ (w1 := ?_) (by rfl) rfl ?_ ?_
  rotate_left
  · go_simp
    rfl
  refine hK.out _ _ ?_
  clear hK K
  refine done_ (by kernel_rfl) ?_
  go_end0
  have hl : (xs ++ [IntKind.u64.wrap s.size] ++ P).length = xs.length + (P.length + 1) := by simp [List.length_append]
  have HO5 := HO4.out
  rw [hl] at HO5
  exact ⟨rfl, ⟨_, blk_set HG4.out 0 _, HBG.out, Kd.R_set HO5 HG4.out (by decide) 0 _⟩, HB4.out.setCell HBG.out _⟩
set_option maxHeartbeats 2000000 in
theorem words_calls (base g : Nat) (xs : List Int) (w : World) (hx : xs.length < 17592186044416) (HW : Wr w base g xs) :
    Calls Try.prog 17 #[.pointer (some ⟨g, 0, none⟩)] w fun e w' => ∃ v0_ : Value, e = .returned (v0_) ∧ Kd.R (Kd.int .u64) 44 w' w.heap.size (fun _ => True) v0_ xs ∧ Below w.heap.size w w' := by
  obtain ⟨v, hg, hb, hR⟩ := HW
  obtain ⟨A, c, ev⟩ := Kd.R_slice hR
  subst ev
  have hc : w.cell? ⟨g, 0, none⟩ = some (.slice A xs.length c) := blk_cell hg 0
  have hk := slices_Clone_uint64_uint64.calls A c xs xs w (Kd.R_reads' hR).2.2 (Kd.R_reads' hR).2.1 (by unfold slices_Clone_uint64_uint64.f; rw [if_pos hx])
  have HK := Aside0.mk hk
  clear hk hR hg hb hx
  go_enter Try.func17, Try.ntmps17
  go_wp2_with (go_at_call 23; (with_reducible refine HK.out.mono ?_); rintro e w1 ⟨v0, rfl, hr, hb⟩; have HR := Aside0.mk hr; have HB := Aside0.mk hb; clear hr hb)
  go_ret
  exact ⟨_, rfl, HR.out, HB.out⟩
end Go.Proofs.Ytlojhiacaleokaa.PWD
