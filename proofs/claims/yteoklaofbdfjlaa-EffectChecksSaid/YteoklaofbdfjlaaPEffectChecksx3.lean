-- Written by a program of this session: the printer, with contracts put in that were proved by hand. Lean checks it.
import Derived.Test.YteoklaofbdfjlaaPEffectChecksx0
import Derived.Test.YteoklaofbdfjlaaPEffectChecksx2
namespace Go.Proofs.Yteoklaofbdfjlaa.PEffectChecks
open Go.RowKit Go.Proofs.YteoklaofbdfjlaaW.PrintWords Go.Proofs.YteoklaofbdfjlaaW.PrintLast Go.Proofs.YteoklaofbdfjlaaW.PrintMore
attribute [local go_sem] L.setCell_drewN max2_int min2_int max_two min_two max_three min_three max_four min_four   -- for this text's walks alone
set_option linter.unusedVariables false
set_option linter.unusedSimpArgs false

/-! ### effect_right: function 50 -/
end Go.Proofs.Yteoklaofbdfjlaa.PEffectChecks
namespace Go.Proofs.Yteoklaofbdfjlaa.PEffectChecks
open Go.RowKit Go.Proofs.YteoklaofbdfjlaaW.PrintWords Go.Proofs.YteoklaofbdfjlaaW.PrintLast Go.Proofs.YteoklaofbdfjlaaW.PrintMore
set_option linter.unusedVariables false
set_option linter.unusedSimpArgs false
theorem effect_right.gen {P : Program} {c : Code} {Q : Exit → Act → World → Prop} {a : Act} {w : World} (F : World → Prop) (hF : F w) (h : ∀ W, F W → c.wp P Q a W) : c.wp P Q a w := h w hF
theorem effect_right.far {w : World} {g b j : Nat} {v x0 x1 x2 x3 x4 x5 x6 x7 : Value} (hn : g ≠ b) (h : w.cell? ⟨g, j, none⟩ = some v) : ((((((((w.setCell ⟨b, 0, none⟩ x0).setCell ⟨b, 1, none⟩ x1).setCell ⟨b, 2, none⟩ x2).setCell ⟨b, 3, none⟩ x3).setCell ⟨b, 4, none⟩ x4).setCell ⟨b, 5, none⟩ x5).setCell ⟨b, 6, none⟩ x6).setCell ⟨b, 7, none⟩ x7).cell? ⟨g, j, none⟩ = some v := by
  have k : ∀ (w : World) (i : Nat) (x : Value), w.cell? ⟨g, j, none⟩ = some v → (w.setCell ⟨b, i, none⟩ x).cell? ⟨g, j, none⟩ = some v := fun w i x h => (World.cell?_setCell_far w ⟨b, i, none⟩ ⟨g, j, none⟩ x (fun e => hn e.symm)).trans h
  exact k _ _ _ (k _ _ _ (k _ _ _ (k _ _ _ (k _ _ _ (k _ _ _ (k _ _ _ (k _ _ _ h)))))))
theorem effect_right.hp0 (w : World) (x y z : Obj) : ((((w.alloc x).alloc y).alloc z).drew).heap[w.heap.size]? = some x := blk_drew (blk_alloc (blk_alloc (heap_alloc_new w x) y) z)
theorem effect_right.hp1 (w : World) (x y z : Obj) : ((((w.alloc x).alloc y).alloc z).drew).heap[w.heap.size + 1]? = some y := by
  have h := heap_alloc_new (w.alloc x) y
  rw [World.size_alloc] at h
  exact blk_drew (blk_alloc h z)
theorem effect_right.hp2 (w : World) (x y z : Obj) : ((((w.alloc x).alloc y).alloc z).drew).heap[w.heap.size + 1 + 1]? = some z := by
  have h := heap_alloc_new ((w.alloc x).alloc y) z
  rw [World.size_alloc, World.size_alloc] at h
  exact blk_drew h
theorem effect_right.belo (w : World) (x y z : Obj) : Below w.heap.size w (((w.alloc x).alloc y).alloc z).drew := by
  refine below_drew ?_
  exact (((Below.refl _ _).alloc (Nat.le_refl _) _).alloc (by simp) _).alloc (by simp; omega) _
set_option maxRecDepth 100000 in
set_option maxHeartbeats 4000000 in
theorem effect_right.c2 (k : Nat) (a1 a2 a3 a4 a5 : Int) (a6 a7 : ByteArray) (A8 : Option Addr) (c8 : Nat) (l8 : List Int) (w : World) (b : Bool) (hb : effect_place.f k a2 a6 = some b) :
    Calls Try.prog 50 #[.agg #[.int .i64 2, .int .i64 a1, .int .i64 a2, .int .i64 a3, .int .i64 a4, .int .i64 a5, .string a6, .string a7, .slice A8 l8.length c8]] w fun e w' => e = .returned (.tuple #[.agg #[.int .i64 2, .int .i64 a1, .int .i64 a2, .int .i64 0, .int .i64 0, .int .i64 0, .string a6, .string ⟨#[]⟩], .bool b]) ∧ Below w.heap.size w w' := by
  have HBB := Aside0.mk hb
  clear hb
  go_enter Try.func50, Try.ntmps50
  go_wp2
  go_region
  go_wp2
  refine effect_right.gen (fun W => W.heap[w.heap.size]? = some (.cells #[.int .i64 2, .int .i64 a1, .int .i64 a2, .int .i64 a3, .int .i64 a4, .int .i64 a5, .string a6, .string a7, .slice A8 l8.length c8] 24 (0, 0)) ∧ W.heap[w.heap.size + 1]? = some (.cells #[.int .i64 0, .int .i64 0, .int .i64 0, .int .i64 0, .int .i64 0, .int .i64 0, .string ⟨#[]⟩, .string ⟨#[]⟩] 78 (0, 0)) ∧ W.heap[w.heap.size + 1 + 1]? = some (.cells #[.int .i64 2, .int .i64 a1, .int .i64 a2, .int .i64 0, .int .i64 0, .int .i64 0, .string a6, .string ⟨#[]⟩] 78 (0, 0)) ∧ Below w.heap.size w W) ⟨effect_right.hp0 w _ _ _, effect_right.hp1 w _ _ _, effect_right.hp2 w _ _ _, effect_right.belo w _ _ _⟩ (fun W hW => ?_)
  obtain ⟨hE, hZ, hS, hB⟩ := hW
  refine start_ (n := 8) (S := fun w' => w'.cell? ⟨w.heap.size + 1 + 1, 0, none⟩ = some (.int .i64 2) ∧ w'.cell? ⟨w.heap.size + 1 + 1, 1, none⟩ = some (.int .i64 a1) ∧ w'.cell? ⟨w.heap.size + 1 + 1, 2, none⟩ = some (.int .i64 a2) ∧ w'.cell? ⟨w.heap.size + 1 + 1, 3, none⟩ = some (.int .i64 0) ∧ w'.cell? ⟨w.heap.size + 1 + 1, 4, none⟩ = some (.int .i64 0) ∧ w'.cell? ⟨w.heap.size + 1 + 1, 5, none⟩ = some (.int .i64 0) ∧ w'.cell? ⟨w.heap.size + 1 + 1, 6, none⟩ = some (.string a6) ∧ w'.cell? ⟨w.heap.size + 1 + 1, 7, none⟩ = some (.string ⟨#[]⟩) ∧ w'.cell? ⟨w.heap.size, 2, none⟩ = some (.int .i64 a2) ∧ w'.cell? ⟨w.heap.size, 6, none⟩ = some (.string a6)) (ds := [6]) #[false, false, false, false, false, false, false, false] (by kernel_rfl) rfl rfl ⟨blk_cell (blk_drew hS) 0, blk_cell (blk_drew hS) 1, blk_cell (blk_drew hS) 2, blk_cell (blk_drew hS) 3, blk_cell (blk_drew hS) 4, blk_cell (blk_drew hS) 5, blk_cell (blk_drew hS) 6, blk_cell (blk_drew hS) 7, blk_cell (blk_drew hE) 2, blk_cell (blk_drew hE) 6⟩ (fun hHeld => ?_)
  refine pure_ (i := 1) (N := some 50) (v := ?_) (a' := ?_) #[false, true, false, false, false, false, false, false] rfl rfl (by kernel_rfl) (fun _ _ _ h => h) (Or.inl ⟨by rfl, ?_⟩) ?_ ?_
  rotate_left
  · intro w'
    go_simp
    with_reducible rfl
  rotate_left
  · simp only [Act.put, List.setIfInBounds_toArray, List.set_cons_zero, List.set_cons_succ, i64_w, i32_w]
    rfl
  refine pure_ (i := 3) (N := some 52) (v := ?_) (a' := ?_) #[false, true, false, true, false, false, false, false] rfl rfl (by kernel_rfl) (fun _ _ _ h => h) (Or.inl ⟨by rfl, ?_⟩) ?_ ?_
  rotate_left
  · intro w'
    go_simp
    with_reducible rfl
  rotate_left
  · simp only [Act.put, List.setIfInBounds_toArray, List.set_cons_zero, List.set_cons_succ, i64_w, i32_w]
    rfl
  refine take_ (i := 0) (N := some 49) (v := ?_) (a' := ?_) #[true, true, false, true, false, false, false, false] rfl rfl (by kernel_rfl) (fun _ _ _ h => h) (Or.inl ⟨by rfl, ?_⟩) hHeld ?_ ?_
  rotate_left
  · rintro w' ⟨s0, s1, s2, s3, s4, s5, s6, s7, s8, s9⟩
    go_simp
    with_reducible rfl
  rotate_left
  · simp only [Act.put, List.setIfInBounds_toArray, List.set_cons_zero, List.set_cons_succ, i64_w, i32_w]
    rfl
  refine take_ (i := 2) (N := some 51) (v := ?_) (a' := ?_) #[true, true, true, true, false, false, false, false] rfl rfl (by kernel_rfl) (fun _ _ _ h => h) (Or.inl ⟨by rfl, ?_⟩) hHeld ?_ ?_
  rotate_left
  · rintro w' ⟨s0, s1, s2, s3, s4, s5, s6, s7, s8, s9⟩
    go_simp
    with_reducible rfl
  rotate_left
  · simp only [Act.put, List.setIfInBounds_toArray, List.set_cons_zero, List.set_cons_succ, i64_w, i32_w]
    rfl
  refine take_ (i := 4) (N := some 53) (v := ?_) (a' := ?_) #[true, true, true, true, true, false, false, false] rfl rfl (by kernel_rfl) (fun _ _ _ h => h) (Or.inl ⟨by rfl, ?_⟩) hHeld ?_ ?_
  rotate_left
  · rintro w' ⟨s0, s1, s2, s3, s4, s5, s6, s7, s8, s9⟩
    go_simp
    with_reducible rfl
  rotate_left
  · simp only [Act.put, List.setIfInBounds_toArray, List.set_cons_zero, List.set_cons_succ, i64_w, i32_w]
    rfl
  refine one_ (i := 5) (N := some 54) #[true, true, true, true, true, true, false, false] rfl rfl (by kernel_rfl) (by decide) (fun K hK => ?_)
  refine goes_ Try.func79 (by kernel_rfl) rfl #[.int .i64 a2, .string a6] (by rfl) rfl rfl (by simp only [List.map_toArray, List.map_cons, List.map_nil]; rfl) ?_
  with_reducible refine (effect_place.calls k a2 a6 b _ HBB.out).mono ?_
  rintro e w3 ⟨rfl, ⟨nd5, rfl⟩⟩
  refine ⟨_, rfl, ?_⟩
  refine hK.out _ _ ⟨hHeld.1, hHeld.2.1, hHeld.2.2.1, hHeld.2.2.2.1, hHeld.2.2.2.2.1, hHeld.2.2.2.2.2.1, hHeld.2.2.2.2.2.2.1, hHeld.2.2.2.2.2.2.2.1, hHeld.2.2.2.2.2.2.2.2.1, hHeld.2.2.2.2.2.2.2.2.2⟩ (fun hHeld => ?_)
  clear hK K
  refine norm_ (a' := ?_) ?_ ?_
  rotate_left
  · show Act.put _ (some 54) _ = _
    simp only [Act.put, List.setIfInBounds_toArray, List.set_cons_zero, List.set_cons_succ, i64_w, i32_w]
    rfl
  refine last_ (i := 6) (N := none) #[true, true, true, true, true, true, true, false] rfl rfl (by kernel_rfl) (by decide) (fun K hK => ?_)
  have hz0 := blk_cell (hZ) 0
  have hz1 := blk_cell (hZ) 1
  have hz2 := blk_cell (hZ) 2
  have hz3 := blk_cell (hZ) 3
  have hz4 := blk_cell (hZ) 4
  have hz5 := blk_cell (hZ) 5
  have hz6 := blk_cell (hZ) 6
  have hz7 := blk_cell (hZ) 7
  have hf0 := blk_frozen (hZ) 0
  have hf1 := blk_frozen (hZ) 1
  have hf2 := blk_frozen (hZ) 2
  have hf3 := blk_frozen (hZ) 3
  have hf4 := blk_frozen (hZ) 4
  have hf5 := blk_frozen (hZ) 5
  have hf6 := blk_frozen (hZ) 6
  have hf7 := blk_frozen (hZ) 7
  refine skip_ (w1 := ?_) (by rfl) rfl ?_ ?_
  rotate_left
  · go_simp
    rfl
  refine hK.out _ _ ?_
  clear hK K
  refine pure_ (i := 7) (N := some 3) (v := ?_) (a' := ?_) #[true, true, true, true, true, true, true, true] rfl rfl (by kernel_rfl) (fun _ _ _ h => h) (Or.inl ⟨by rfl, ?_⟩) ?_ ?_
  rotate_left
  · intro w'
    go_simp
    with_reducible rfl
  rotate_left
  · simp only [Act.put, List.setIfInBounds_toArray, List.set_cons_zero, List.set_cons_succ, i64_w, i32_w]
    rfl
  refine done_ (by kernel_rfl) ?_

  go_wp2
  refine bodyPost_ret (v := .tuple #[.agg #[.int .i64 2, .int .i64 a1, .int .i64 a2, .int .i64 0, .int .i64 0, .int .i64 0, .string a6, .string ⟨#[]⟩], .bool b]) (by simp [results, Try.results50, go_sem, hz0, hz1, hz2, hz3, hz4, hz5, hz6, hz7]) rfl ⟨rfl, ?_⟩
  repeat (with_reducible first | exact hB | exact Below.refl _ _ | refine pw_below_drewN ?_ _ | refine below_drew ?_ | refine Below.setCell ?_ (by simp) _ | refine Below.alloc ?_ (by simp <;> omega) _)
set_option maxRecDepth 100000 in
set_option maxHeartbeats 4000000 in
theorem effect_right.c3 (k : Nat) (a1 a2 a3 a4 a5 : Int) (a6 a7 : ByteArray) (A8 : Option Addr) (c8 : Nat) (l8 : List Int) (w : World) (b : Bool) (hb : effect_place.f k a2 a6 = some b) :
    Calls Try.prog 50 #[.agg #[.int .i64 3, .int .i64 a1, .int .i64 a2, .int .i64 a3, .int .i64 a4, .int .i64 a5, .string a6, .string a7, .slice A8 l8.length c8]] w fun e w' => e = .returned (.tuple #[.agg #[.int .i64 3, .int .i64 a1, .int .i64 a2, .int .i64 0, .int .i64 0, .int .i64 0, .string a6, .string ⟨#[]⟩], .bool b]) ∧ Below w.heap.size w w' := by
  have HBB := Aside0.mk hb
  clear hb
  go_enter Try.func50, Try.ntmps50
  go_wp2
  go_region
  go_wp2
  refine effect_right.gen (fun W => W.heap[w.heap.size]? = some (.cells #[.int .i64 3, .int .i64 a1, .int .i64 a2, .int .i64 a3, .int .i64 a4, .int .i64 a5, .string a6, .string a7, .slice A8 l8.length c8] 24 (0, 0)) ∧ W.heap[w.heap.size + 1]? = some (.cells #[.int .i64 0, .int .i64 0, .int .i64 0, .int .i64 0, .int .i64 0, .int .i64 0, .string ⟨#[]⟩, .string ⟨#[]⟩] 78 (0, 0)) ∧ W.heap[w.heap.size + 1 + 1]? = some (.cells #[.int .i64 3, .int .i64 a1, .int .i64 a2, .int .i64 0, .int .i64 0, .int .i64 0, .string a6, .string ⟨#[]⟩] 78 (0, 0)) ∧ Below w.heap.size w W) ⟨effect_right.hp0 w _ _ _, effect_right.hp1 w _ _ _, effect_right.hp2 w _ _ _, effect_right.belo w _ _ _⟩ (fun W hW => ?_)
  obtain ⟨hE, hZ, hS, hB⟩ := hW
  refine start_ (n := 8) (S := fun w' => w'.cell? ⟨w.heap.size + 1 + 1, 0, none⟩ = some (.int .i64 3) ∧ w'.cell? ⟨w.heap.size + 1 + 1, 1, none⟩ = some (.int .i64 a1) ∧ w'.cell? ⟨w.heap.size + 1 + 1, 2, none⟩ = some (.int .i64 a2) ∧ w'.cell? ⟨w.heap.size + 1 + 1, 3, none⟩ = some (.int .i64 0) ∧ w'.cell? ⟨w.heap.size + 1 + 1, 4, none⟩ = some (.int .i64 0) ∧ w'.cell? ⟨w.heap.size + 1 + 1, 5, none⟩ = some (.int .i64 0) ∧ w'.cell? ⟨w.heap.size + 1 + 1, 6, none⟩ = some (.string a6) ∧ w'.cell? ⟨w.heap.size + 1 + 1, 7, none⟩ = some (.string ⟨#[]⟩) ∧ w'.cell? ⟨w.heap.size, 2, none⟩ = some (.int .i64 a2) ∧ w'.cell? ⟨w.heap.size, 6, none⟩ = some (.string a6)) (ds := [6]) #[false, false, false, false, false, false, false, false] (by kernel_rfl) rfl rfl ⟨blk_cell (blk_drew hS) 0, blk_cell (blk_drew hS) 1, blk_cell (blk_drew hS) 2, blk_cell (blk_drew hS) 3, blk_cell (blk_drew hS) 4, blk_cell (blk_drew hS) 5, blk_cell (blk_drew hS) 6, blk_cell (blk_drew hS) 7, blk_cell (blk_drew hE) 2, blk_cell (blk_drew hE) 6⟩ (fun hHeld => ?_)
  refine pure_ (i := 1) (N := some 50) (v := ?_) (a' := ?_) #[false, true, false, false, false, false, false, false] rfl rfl (by kernel_rfl) (fun _ _ _ h => h) (Or.inl ⟨by rfl, ?_⟩) ?_ ?_
  rotate_left
  · intro w'
    go_simp
    with_reducible rfl
  rotate_left
  · simp only [Act.put, List.setIfInBounds_toArray, List.set_cons_zero, List.set_cons_succ, i64_w, i32_w]
    rfl
  refine pure_ (i := 3) (N := some 52) (v := ?_) (a' := ?_) #[false, true, false, true, false, false, false, false] rfl rfl (by kernel_rfl) (fun _ _ _ h => h) (Or.inl ⟨by rfl, ?_⟩) ?_ ?_
  rotate_left
  · intro w'
    go_simp
    with_reducible rfl
  rotate_left
  · simp only [Act.put, List.setIfInBounds_toArray, List.set_cons_zero, List.set_cons_succ, i64_w, i32_w]
    rfl
  refine take_ (i := 0) (N := some 49) (v := ?_) (a' := ?_) #[true, true, false, true, false, false, false, false] rfl rfl (by kernel_rfl) (fun _ _ _ h => h) (Or.inl ⟨by rfl, ?_⟩) hHeld ?_ ?_
  rotate_left
  · rintro w' ⟨s0, s1, s2, s3, s4, s5, s6, s7, s8, s9⟩
    go_simp
    with_reducible rfl
  rotate_left
  · simp only [Act.put, List.setIfInBounds_toArray, List.set_cons_zero, List.set_cons_succ, i64_w, i32_w]
    rfl
  refine take_ (i := 2) (N := some 51) (v := ?_) (a' := ?_) #[true, true, true, true, false, false, false, false] rfl rfl (by kernel_rfl) (fun _ _ _ h => h) (Or.inl ⟨by rfl, ?_⟩) hHeld ?_ ?_
  rotate_left
  · rintro w' ⟨s0, s1, s2, s3, s4, s5, s6, s7, s8, s9⟩
    go_simp
    with_reducible rfl
  rotate_left
  · simp only [Act.put, List.setIfInBounds_toArray, List.set_cons_zero, List.set_cons_succ, i64_w, i32_w]
    rfl
  refine take_ (i := 4) (N := some 53) (v := ?_) (a' := ?_) #[true, true, true, true, true, false, false, false] rfl rfl (by kernel_rfl) (fun _ _ _ h => h) (Or.inl ⟨by rfl, ?_⟩) hHeld ?_ ?_
  rotate_left
  · rintro w' ⟨s0, s1, s2, s3, s4, s5, s6, s7, s8, s9⟩
    go_simp
    with_reducible rfl
  rotate_left
  · simp only [Act.put, List.setIfInBounds_toArray, List.set_cons_zero, List.set_cons_succ, i64_w, i32_w]
    rfl
  refine one_ (i := 5) (N := some 54) #[true, true, true, true, true, true, false, false] rfl rfl (by kernel_rfl) (by decide) (fun K hK => ?_)
  refine goes_ Try.func79 (by kernel_rfl) rfl #[.int .i64 a2, .string a6] (by rfl) rfl rfl (by simp only [List.map_toArray, List.map_cons, List.map_nil]; rfl) ?_
  with_reducible refine (effect_place.calls k a2 a6 b _ HBB.out).mono ?_
  rintro e w3 ⟨rfl, ⟨nd5, rfl⟩⟩
  refine ⟨_, rfl, ?_⟩
  refine hK.out _ _ ⟨hHeld.1, hHeld.2.1, hHeld.2.2.1, hHeld.2.2.2.1, hHeld.2.2.2.2.1, hHeld.2.2.2.2.2.1, hHeld.2.2.2.2.2.2.1, hHeld.2.2.2.2.2.2.2.1, hHeld.2.2.2.2.2.2.2.2.1, hHeld.2.2.2.2.2.2.2.2.2⟩ (fun hHeld => ?_)
  clear hK K
  refine norm_ (a' := ?_) ?_ ?_
  rotate_left
  · show Act.put _ (some 54) _ = _
    simp only [Act.put, List.setIfInBounds_toArray, List.set_cons_zero, List.set_cons_succ, i64_w, i32_w]
    rfl
  refine last_ (i := 6) (N := none) #[true, true, true, true, true, true, true, false] rfl rfl (by kernel_rfl) (by decide) (fun K hK => ?_)
  have hz0 := blk_cell (hZ) 0
  have hz1 := blk_cell (hZ) 1
  have hz2 := blk_cell (hZ) 2
  have hz3 := blk_cell (hZ) 3
  have hz4 := blk_cell (hZ) 4
  have hz5 := blk_cell (hZ) 5
  have hz6 := blk_cell (hZ) 6
  have hz7 := blk_cell (hZ) 7
  have hf0 := blk_frozen (hZ) 0
  have hf1 := blk_frozen (hZ) 1
  have hf2 := blk_frozen (hZ) 2
  have hf3 := blk_frozen (hZ) 3
  have hf4 := blk_frozen (hZ) 4
  have hf5 := blk_frozen (hZ) 5
  have hf6 := blk_frozen (hZ) 6
  have hf7 := blk_frozen (hZ) 7
  refine skip_ (w1 := ?_) (by rfl) rfl ?_ ?_
  rotate_left
  · go_simp
    rfl
  refine hK.out _ _ ?_
  clear hK K
  refine pure_ (i := 7) (N := some 3) (v := ?_) (a' := ?_) #[true, true, true, true, true, true, true, true] rfl rfl (by kernel_rfl) (fun _ _ _ h => h) (Or.inl ⟨by rfl, ?_⟩) ?_ ?_
  rotate_left
  · intro w'
    go_simp
    with_reducible rfl
  rotate_left
  · simp only [Act.put, List.setIfInBounds_toArray, List.set_cons_zero, List.set_cons_succ, i64_w, i32_w]
    rfl
  refine done_ (by kernel_rfl) ?_

  go_wp2
  refine bodyPost_ret (v := .tuple #[.agg #[.int .i64 3, .int .i64 a1, .int .i64 a2, .int .i64 0, .int .i64 0, .int .i64 0, .string a6, .string ⟨#[]⟩], .bool b]) (by simp [results, Try.results50, go_sem, hz0, hz1, hz2, hz3, hz4, hz5, hz6, hz7]) rfl ⟨rfl, ?_⟩
  repeat (with_reducible first | exact hB | exact Below.refl _ _ | refine pw_below_drewN ?_ _ | refine below_drew ?_ | refine Below.setCell ?_ (by simp) _ | refine Below.alloc ?_ (by simp <;> omega) _)
set_option maxRecDepth 100000 in
set_option maxHeartbeats 4000000 in
theorem effect_right.c4 (k : Nat) (a1 a2 a3 a4 a5 : Int) (a6 a7 : ByteArray) (A8 : Option Addr) (c8 : Nat) (l8 : List Int) (w : World) (b : Bool) (hb : effect_place.f k a2 a6 = some b) :
    Calls Try.prog 50 #[.agg #[.int .i64 4, .int .i64 a1, .int .i64 a2, .int .i64 a3, .int .i64 a4, .int .i64 a5, .string a6, .string a7, .slice A8 l8.length c8]] w fun e w' => e = .returned (.tuple #[.agg #[.int .i64 4, .int .i64 a1, .int .i64 a2, .int .i64 0, .int .i64 0, .int .i64 0, .string a6, .string ⟨#[]⟩], .bool b]) ∧ Below w.heap.size w w' := by
  have HBB := Aside0.mk hb
  clear hb
  go_enter Try.func50, Try.ntmps50
  go_wp2
  go_region
  go_wp2
  refine effect_right.gen (fun W => W.heap[w.heap.size]? = some (.cells #[.int .i64 4, .int .i64 a1, .int .i64 a2, .int .i64 a3, .int .i64 a4, .int .i64 a5, .string a6, .string a7, .slice A8 l8.length c8] 24 (0, 0)) ∧ W.heap[w.heap.size + 1]? = some (.cells #[.int .i64 0, .int .i64 0, .int .i64 0, .int .i64 0, .int .i64 0, .int .i64 0, .string ⟨#[]⟩, .string ⟨#[]⟩] 78 (0, 0)) ∧ W.heap[w.heap.size + 1 + 1]? = some (.cells #[.int .i64 4, .int .i64 a1, .int .i64 a2, .int .i64 0, .int .i64 0, .int .i64 0, .string a6, .string ⟨#[]⟩] 78 (0, 0)) ∧ Below w.heap.size w W) ⟨effect_right.hp0 w _ _ _, effect_right.hp1 w _ _ _, effect_right.hp2 w _ _ _, effect_right.belo w _ _ _⟩ (fun W hW => ?_)
  obtain ⟨hE, hZ, hS, hB⟩ := hW
  refine start_ (n := 8) (S := fun w' => w'.cell? ⟨w.heap.size + 1 + 1, 0, none⟩ = some (.int .i64 4) ∧ w'.cell? ⟨w.heap.size + 1 + 1, 1, none⟩ = some (.int .i64 a1) ∧ w'.cell? ⟨w.heap.size + 1 + 1, 2, none⟩ = some (.int .i64 a2) ∧ w'.cell? ⟨w.heap.size + 1 + 1, 3, none⟩ = some (.int .i64 0) ∧ w'.cell? ⟨w.heap.size + 1 + 1, 4, none⟩ = some (.int .i64 0) ∧ w'.cell? ⟨w.heap.size + 1 + 1, 5, none⟩ = some (.int .i64 0) ∧ w'.cell? ⟨w.heap.size + 1 + 1, 6, none⟩ = some (.string a6) ∧ w'.cell? ⟨w.heap.size + 1 + 1, 7, none⟩ = some (.string ⟨#[]⟩) ∧ w'.cell? ⟨w.heap.size, 2, none⟩ = some (.int .i64 a2) ∧ w'.cell? ⟨w.heap.size, 6, none⟩ = some (.string a6)) (ds := [6]) #[false, false, false, false, false, false, false, false] (by kernel_rfl) rfl rfl ⟨blk_cell (blk_drew hS) 0, blk_cell (blk_drew hS) 1, blk_cell (blk_drew hS) 2, blk_cell (blk_drew hS) 3, blk_cell (blk_drew hS) 4, blk_cell (blk_drew hS) 5, blk_cell (blk_drew hS) 6, blk_cell (blk_drew hS) 7, blk_cell (blk_drew hE) 2, blk_cell (blk_drew hE) 6⟩ (fun hHeld => ?_)
  refine pure_ (i := 1) (N := some 50) (v := ?_) (a' := ?_) #[false, true, false, false, false, false, false, false] rfl rfl (by kernel_rfl) (fun _ _ _ h => h) (Or.inl ⟨by rfl, ?_⟩) ?_ ?_
  rotate_left
  · intro w'
    go_simp
    with_reducible rfl
  rotate_left
  · simp only [Act.put, List.setIfInBounds_toArray, List.set_cons_zero, List.set_cons_succ, i64_w, i32_w]
    rfl
  refine pure_ (i := 3) (N := some 52) (v := ?_) (a' := ?_) #[false, true, false, true, false, false, false, false] rfl rfl (by kernel_rfl) (fun _ _ _ h => h) (Or.inl ⟨by rfl, ?_⟩) ?_ ?_
  rotate_left
  · intro w'
    go_simp
    with_reducible rfl
  rotate_left
  · simp only [Act.put, List.setIfInBounds_toArray, List.set_cons_zero, List.set_cons_succ, i64_w, i32_w]
    rfl
  refine take_ (i := 0) (N := some 49) (v := ?_) (a' := ?_) #[true, true, false, true, false, false, false, false] rfl rfl (by kernel_rfl) (fun _ _ _ h => h) (Or.inl ⟨by rfl, ?_⟩) hHeld ?_ ?_
  rotate_left
  · rintro w' ⟨s0, s1, s2, s3, s4, s5, s6, s7, s8, s9⟩
    go_simp
    with_reducible rfl
  rotate_left
  · simp only [Act.put, List.setIfInBounds_toArray, List.set_cons_zero, List.set_cons_succ, i64_w, i32_w]
    rfl
  refine take_ (i := 2) (N := some 51) (v := ?_) (a' := ?_) #[true, true, true, true, false, false, false, false] rfl rfl (by kernel_rfl) (fun _ _ _ h => h) (Or.inl ⟨by rfl, ?_⟩) hHeld ?_ ?_
  rotate_left
  · rintro w' ⟨s0, s1, s2, s3, s4, s5, s6, s7, s8, s9⟩
    go_simp
    with_reducible rfl
  rotate_left
  · simp only [Act.put, List.setIfInBounds_toArray, List.set_cons_zero, List.set_cons_succ, i64_w, i32_w]
    rfl
  refine take_ (i := 4) (N := some 53) (v := ?_) (a' := ?_) #[true, true, true, true, true, false, false, false] rfl rfl (by kernel_rfl) (fun _ _ _ h => h) (Or.inl ⟨by rfl, ?_⟩) hHeld ?_ ?_
  rotate_left
  · rintro w' ⟨s0, s1, s2, s3, s4, s5, s6, s7, s8, s9⟩
    go_simp
    with_reducible rfl
  rotate_left
  · simp only [Act.put, List.setIfInBounds_toArray, List.set_cons_zero, List.set_cons_succ, i64_w, i32_w]
    rfl
  refine one_ (i := 5) (N := some 54) #[true, true, true, true, true, true, false, false] rfl rfl (by kernel_rfl) (by decide) (fun K hK => ?_)
  refine goes_ Try.func79 (by kernel_rfl) rfl #[.int .i64 a2, .string a6] (by rfl) rfl rfl (by simp only [List.map_toArray, List.map_cons, List.map_nil]; rfl) ?_
  with_reducible refine (effect_place.calls k a2 a6 b _ HBB.out).mono ?_
  rintro e w3 ⟨rfl, ⟨nd5, rfl⟩⟩
  refine ⟨_, rfl, ?_⟩
  refine hK.out _ _ ⟨hHeld.1, hHeld.2.1, hHeld.2.2.1, hHeld.2.2.2.1, hHeld.2.2.2.2.1, hHeld.2.2.2.2.2.1, hHeld.2.2.2.2.2.2.1, hHeld.2.2.2.2.2.2.2.1, hHeld.2.2.2.2.2.2.2.2.1, hHeld.2.2.2.2.2.2.2.2.2⟩ (fun hHeld => ?_)
  clear hK K
  refine norm_ (a' := ?_) ?_ ?_
  rotate_left
  · show Act.put _ (some 54) _ = _
    simp only [Act.put, List.setIfInBounds_toArray, List.set_cons_zero, List.set_cons_succ, i64_w, i32_w]
    rfl
  refine last_ (i := 6) (N := none) #[true, true, true, true, true, true, true, false] rfl rfl (by kernel_rfl) (by decide) (fun K hK => ?_)
  have hz0 := blk_cell (hZ) 0
  have hz1 := blk_cell (hZ) 1
  have hz2 := blk_cell (hZ) 2
  have hz3 := blk_cell (hZ) 3
  have hz4 := blk_cell (hZ) 4
  have hz5 := blk_cell (hZ) 5
  have hz6 := blk_cell (hZ) 6
  have hz7 := blk_cell (hZ) 7
  have hf0 := blk_frozen (hZ) 0
  have hf1 := blk_frozen (hZ) 1
  have hf2 := blk_frozen (hZ) 2
  have hf3 := blk_frozen (hZ) 3
  have hf4 := blk_frozen (hZ) 4
  have hf5 := blk_frozen (hZ) 5
  have hf6 := blk_frozen (hZ) 6
  have hf7 := blk_frozen (hZ) 7
  refine skip_ (w1 := ?_) (by rfl) rfl ?_ ?_
  rotate_left
  · go_simp
    rfl
  refine hK.out _ _ ?_
  clear hK K
  refine pure_ (i := 7) (N := some 3) (v := ?_) (a' := ?_) #[true, true, true, true, true, true, true, true] rfl rfl (by kernel_rfl) (fun _ _ _ h => h) (Or.inl ⟨by rfl, ?_⟩) ?_ ?_
  rotate_left
  · intro w'
    go_simp
    with_reducible rfl
  rotate_left
  · simp only [Act.put, List.setIfInBounds_toArray, List.set_cons_zero, List.set_cons_succ, i64_w, i32_w]
    rfl
  refine done_ (by kernel_rfl) ?_

  go_wp2
  refine bodyPost_ret (v := .tuple #[.agg #[.int .i64 4, .int .i64 a1, .int .i64 a2, .int .i64 0, .int .i64 0, .int .i64 0, .string a6, .string ⟨#[]⟩], .bool b]) (by simp [results, Try.results50, go_sem, hz0, hz1, hz2, hz3, hz4, hz5, hz6, hz7]) rfl ⟨rfl, ?_⟩
  repeat (with_reducible first | exact hB | exact Below.refl _ _ | refine pw_below_drewN ?_ _ | refine below_drew ?_ | refine Below.setCell ?_ (by simp) _ | refine Below.alloc ?_ (by simp <;> omega) _)
set_option maxRecDepth 100000 in
set_option maxHeartbeats 4000000 in
theorem effect_right.c1f (k : Nat) (a1 a2 a3 a4 a5 : Int) (a6 a7 : ByteArray) (A8 : Option Addr) (c8 : Nat) (l8 : List Int) (w : World) (hb : effect_place.f k a2 a6 = some false) :
    Calls Try.prog 50 #[.agg #[.int .i64 1, .int .i64 a1, .int .i64 a2, .int .i64 a3, .int .i64 a4, .int .i64 a5, .string a6, .string a7, .slice A8 l8.length c8]] w fun e w' => e = .returned (.tuple #[.agg #[.int .i64 1, .int .i64 a1, .int .i64 a2, .int .i64 0, .int .i64 a4, .int .i64 0, .string a6, .string ⟨#[]⟩], .bool false]) ∧ Below w.heap.size w w' := by
  have HBB := Aside0.mk hb
  clear hb
  go_enter Try.func50, Try.ntmps50
  go_wp2
  go_region
  go_wp2
  refine effect_right.gen (fun W => W.heap[w.heap.size]? = some (.cells #[.int .i64 1, .int .i64 a1, .int .i64 a2, .int .i64 a3, .int .i64 a4, .int .i64 a5, .string a6, .string a7, .slice A8 l8.length c8] 24 (0, 0)) ∧ W.heap[w.heap.size + 1]? = some (.cells #[.int .i64 0, .int .i64 0, .int .i64 0, .int .i64 0, .int .i64 0, .int .i64 0, .string ⟨#[]⟩, .string ⟨#[]⟩] 78 (0, 0)) ∧ W.heap[w.heap.size + 1 + 1]? = some (.cells #[.int .i64 1, .int .i64 a1, .int .i64 a2, .int .i64 0, .int .i64 a4, .int .i64 0, .string a6, .string ⟨#[]⟩] 78 (0, 0)) ∧ Below w.heap.size w W) ⟨effect_right.hp0 w _ _ _, effect_right.hp1 w _ _ _, effect_right.hp2 w _ _ _, effect_right.belo w _ _ _⟩ (fun W hW => ?_)
  obtain ⟨hE, hZ, hS, hB⟩ := hW
  refine start_ (n := 18) (S := fun w' => w'.cell? ⟨w.heap.size + 1 + 1, 0, none⟩ = some (.int .i64 1) ∧ w'.cell? ⟨w.heap.size + 1 + 1, 1, none⟩ = some (.int .i64 a1) ∧ w'.cell? ⟨w.heap.size + 1 + 1, 2, none⟩ = some (.int .i64 a2) ∧ w'.cell? ⟨w.heap.size + 1 + 1, 3, none⟩ = some (.int .i64 0) ∧ w'.cell? ⟨w.heap.size + 1 + 1, 4, none⟩ = some (.int .i64 a4) ∧ w'.cell? ⟨w.heap.size + 1 + 1, 5, none⟩ = some (.int .i64 0) ∧ w'.cell? ⟨w.heap.size + 1 + 1, 6, none⟩ = some (.string a6) ∧ w'.cell? ⟨w.heap.size + 1 + 1, 7, none⟩ = some (.string ⟨#[]⟩) ∧ w'.cell? ⟨w.heap.size, 2, none⟩ = some (.int .i64 a2) ∧ w'.cell? ⟨w.heap.size, 6, none⟩ = some (.string a6) ∧ w'.cell? ⟨w.heap.size, 4, none⟩ = some (.int .i64 a4)) (ds := []) #[false, false, false, false, false, false, false, false, false, false, false, false, false, false, false, false, false, false] (by kernel_rfl) rfl rfl ⟨blk_cell (blk_drew hS) 0, blk_cell (blk_drew hS) 1, blk_cell (blk_drew hS) 2, blk_cell (blk_drew hS) 3, blk_cell (blk_drew hS) 4, blk_cell (blk_drew hS) 5, blk_cell (blk_drew hS) 6, blk_cell (blk_drew hS) 7, blk_cell (blk_drew hE) 2, blk_cell (blk_drew hE) 6, blk_cell (blk_drew hE) 4⟩ (fun hHeld => ?_)
  refine pure_ (i := 1) (N := some 24) (v := ?_) (a' := ?_) #[false, true, false, false, false, false, false, false, false, false, false, false, false, false, false, false, false, false] rfl rfl (by kernel_rfl) (fun _ _ _ h => h) (Or.inl ⟨by rfl, ?_⟩) ?_ ?_
  rotate_left
  · intro w'
    go_simp
    with_reducible rfl
  rotate_left
  · simp only [Act.put, List.setIfInBounds_toArray, List.set_cons_zero, List.set_cons_succ, i64_w, i32_w]
    rfl
  refine pure_ (i := 3) (N := some 26) (v := ?_) (a' := ?_) #[false, true, false, true, false, false, false, false, false, false, false, false, false, false, false, false, false, false] rfl rfl (by kernel_rfl) (fun _ _ _ h => h) (Or.inl ⟨by rfl, ?_⟩) ?_ ?_
  rotate_left
  · intro w'
    go_simp
    with_reducible rfl
  rotate_left
  · simp only [Act.put, List.setIfInBounds_toArray, List.set_cons_zero, List.set_cons_succ, i64_w, i32_w]
    rfl
  refine take_ (i := 0) (N := some 23) (v := ?_) (a' := ?_) #[true, true, false, true, false, false, false, false, false, false, false, false, false, false, false, false, false, false] rfl rfl (by kernel_rfl) (fun _ _ _ h => h) (Or.inl ⟨by rfl, ?_⟩) hHeld ?_ ?_
  rotate_left
  · rintro w' ⟨s0, s1, s2, s3, s4, s5, s6, s7, s8, s9, s10⟩
    go_simp
    with_reducible rfl
  rotate_left
  · simp only [Act.put, List.setIfInBounds_toArray, List.set_cons_zero, List.set_cons_succ, i64_w, i32_w]
    rfl
  refine take_ (i := 2) (N := some 25) (v := ?_) (a' := ?_) #[true, true, true, true, false, false, false, false, false, false, false, false, false, false, false, false, false, false] rfl rfl (by kernel_rfl) (fun _ _ _ h => h) (Or.inl ⟨by rfl, ?_⟩) hHeld ?_ ?_
  rotate_left
  · rintro w' ⟨s0, s1, s2, s3, s4, s5, s6, s7, s8, s9, s10⟩
    go_simp
    with_reducible rfl
  rotate_left
  · simp only [Act.put, List.setIfInBounds_toArray, List.set_cons_zero, List.set_cons_succ, i64_w, i32_w]
    rfl
  refine take_ (i := 4) (N := some 27) (v := ?_) (a' := ?_) #[true, true, true, true, true, false, false, false, false, false, false, false, false, false, false, false, false, false] rfl rfl (by kernel_rfl) (fun _ _ _ h => h) (Or.inl ⟨by rfl, ?_⟩) hHeld ?_ ?_
  rotate_left
  · rintro w' ⟨s0, s1, s2, s3, s4, s5, s6, s7, s8, s9, s10⟩
    go_simp
    with_reducible rfl
  rotate_left
  · simp only [Act.put, List.setIfInBounds_toArray, List.set_cons_zero, List.set_cons_succ, i64_w, i32_w]
    rfl
  refine one_ (i := 5) (N := some 28) #[true, true, true, true, true, true, false, false, false, false, false, false, false, false, false, false, false, false] rfl rfl (by kernel_rfl) (by decide) (fun K hK => ?_)
  refine goes_ Try.func79 (by kernel_rfl) rfl #[.int .i64 a2, .string a6] (by rfl) rfl rfl (by simp only [List.map_toArray, List.map_cons, List.map_nil]; rfl) ?_
  with_reducible refine (effect_place.calls k a2 a6 false _ HBB.out).mono ?_
  rintro e w3 ⟨rfl, ⟨nd5, rfl⟩⟩
  refine ⟨_, rfl, ?_⟩
  refine hK.out _ _ ⟨hHeld.1, hHeld.2.1, hHeld.2.2.1, hHeld.2.2.2.1, hHeld.2.2.2.2.1, hHeld.2.2.2.2.2.1, hHeld.2.2.2.2.2.2.1, hHeld.2.2.2.2.2.2.2.1, hHeld.2.2.2.2.2.2.2.2.1, hHeld.2.2.2.2.2.2.2.2.2.1, hHeld.2.2.2.2.2.2.2.2.2.2⟩ (fun hHeld => ?_)
  clear hK K
  refine norm_ (a' := ?_) ?_ ?_
  rotate_left
  · show Act.put _ (some 28) _ = _
    simp only [Act.put, List.setIfInBounds_toArray, List.set_cons_zero, List.set_cons_succ, i64_w, i32_w]
    rfl
  refine pure_ (i := 6) (N := some 29) (v := ?_) (a' := ?_) #[true, true, true, true, true, true, true, false, false, false, false, false, false, false, false, false, false, false] rfl rfl (by kernel_rfl) (fun _ _ _ h => h) (Or.inl ⟨by rfl, ?_⟩) ?_ ?_
  rotate_left
  · intro w'
    go_simp
    with_reducible rfl
  rotate_left
  · simp only [Act.put, List.setIfInBounds_toArray, List.set_cons_zero, List.set_cons_succ, i64_w, i32_w]
    rfl
  refine pure_ (i := 7) (N := some 30) (v := undef) (a' := ?_) #[true, true, true, true, true, true, true, true, false, false, false, false, false, false, false, false, false, false] rfl rfl (by kernel_rfl) (fun _ _ _ h => h) (Or.inr ⟨by rfl, rfl⟩) ?_ ?_
  rotate_left
  · simp only [Act.put, List.setIfInBounds_toArray, List.set_cons_zero, List.set_cons_succ, i64_w, i32_w]
    rfl
  refine pure_ (i := 8) (N := some 31) (v := undef) (a' := ?_) #[true, true, true, true, true, true, true, true, true, false, false, false, false, false, false, false, false, false] rfl rfl (by kernel_rfl) (fun _ _ _ h => h) (Or.inr ⟨by rfl, rfl⟩) ?_ ?_
  rotate_left
  · simp only [Act.put, List.setIfInBounds_toArray, List.set_cons_zero, List.set_cons_succ, i64_w, i32_w]
    rfl
  refine pure_ (i := 9) (N := some 32) (v := undef) (a' := ?_) #[true, true, true, true, true, true, true, true, true, true, false, false, false, false, false, false, false, false] rfl rfl (by kernel_rfl) (fun _ _ _ h => h) (Or.inr ⟨by rfl, rfl⟩) ?_ ?_
  rotate_left
  · simp only [Act.put, List.setIfInBounds_toArray, List.set_cons_zero, List.set_cons_succ, i64_w, i32_w]
    rfl
  refine pure_ (i := 10) (N := some 33) (v := undef) (a' := ?_) #[true, true, true, true, true, true, true, true, true, true, true, false, false, false, false, false, false, false] rfl rfl (by kernel_rfl) (fun _ _ _ h => h) (Or.inr ⟨by rfl, rfl⟩) ?_ ?_
  rotate_left
  · simp only [Act.put, List.setIfInBounds_toArray, List.set_cons_zero, List.set_cons_succ, i64_w, i32_w]
    rfl
  refine pure_ (i := 11) (N := some 34) (v := undef) (a' := ?_) #[true, true, true, true, true, true, true, true, true, true, true, true, false, false, false, false, false, false] rfl rfl (by kernel_rfl) (fun _ _ _ h => h) (Or.inr ⟨by rfl, rfl⟩) ?_ ?_
  rotate_left
  · simp only [Act.put, List.setIfInBounds_toArray, List.set_cons_zero, List.set_cons_succ, i64_w, i32_w]
    rfl
  refine pure_ (i := 12) (N := some 35) (v := undef) (a' := ?_) #[true, true, true, true, true, true, true, true, true, true, true, true, true, false, false, false, false, false] rfl rfl (by kernel_rfl) (fun _ _ _ h => h) (Or.inr ⟨by rfl, rfl⟩) ?_ ?_
  rotate_left
  · simp only [Act.put, List.setIfInBounds_toArray, List.set_cons_zero, List.set_cons_succ, i64_w, i32_w]
    rfl
  refine pure_ (i := 13) (N := some 36) (v := undef) (a' := ?_) #[true, true, true, true, true, true, true, true, true, true, true, true, true, true, false, false, false, false] rfl rfl (by kernel_rfl) (fun _ _ _ h => h) (Or.inr ⟨by rfl, rfl⟩) ?_ ?_
  rotate_left
  · simp only [Act.put, List.setIfInBounds_toArray, List.set_cons_zero, List.set_cons_succ, i64_w, i32_w]
    rfl
  refine pure_ (i := 14) (N := some 37) (v := undef) (a' := ?_) #[true, true, true, true, true, true, true, true, true, true, true, true, true, true, true, false, false, false] rfl rfl (by kernel_rfl) (fun _ _ _ h => h) (Or.inr ⟨by rfl, rfl⟩) ?_ ?_
  rotate_left
  · simp only [Act.put, List.setIfInBounds_toArray, List.set_cons_zero, List.set_cons_succ, i64_w, i32_w]
    rfl
  refine pure_ (i := 15) (N := some 38) (v := ?_) (a' := ?_) #[true, true, true, true, true, true, true, true, true, true, true, true, true, true, true, true, false, false] rfl rfl (by kernel_rfl) (fun _ _ _ h => h) (Or.inl ⟨by rfl, ?_⟩) ?_ ?_
  rotate_left
  · intro w'
    go_simp
    with_reducible rfl
  rotate_left
  · simp only [Act.put, List.setIfInBounds_toArray, List.set_cons_zero, List.set_cons_succ, i64_w, i32_w]
    rfl
  refine one_ (i := 16) (N := none) #[true, true, true, true, true, true, true, true, true, true, true, true, true, true, true, true, true, false] rfl rfl (by kernel_rfl) (by decide) (fun K hK => ?_)
  have hz0 := blk_cell (hZ) 0
  have hz1 := blk_cell (hZ) 1
  have hz2 := blk_cell (hZ) 2
  have hz3 := blk_cell (hZ) 3
  have hz4 := blk_cell (hZ) 4
  have hz5 := blk_cell (hZ) 5
  have hz6 := blk_cell (hZ) 6
  have hz7 := blk_cell (hZ) 7
  have hf0 := blk_frozen (hZ) 0
  have hf1 := blk_frozen (hZ) 1
  have hf2 := blk_frozen (hZ) 2
  have hf3 := blk_frozen (hZ) 3
  have hf4 := blk_frozen (hZ) 4
  have hf5 := blk_frozen (hZ) 5
  have hf6 := blk_frozen (hZ) 6
  have hf7 := blk_frozen (hZ) 7
  refine skip_ (w1 := ?_) (by rfl) rfl ?_ ?_
  rotate_left
  · go_simp
    rfl
  refine hK.out _ _ ⟨effect_right.far (by omega) (hHeld.1), effect_right.far (by omega) (hHeld.2.1), effect_right.far (by omega) (hHeld.2.2.1), effect_right.far (by omega) (hHeld.2.2.2.1), effect_right.far (by omega) (hHeld.2.2.2.2.1), effect_right.far (by omega) (hHeld.2.2.2.2.2.1), effect_right.far (by omega) (hHeld.2.2.2.2.2.2.1), effect_right.far (by omega) (hHeld.2.2.2.2.2.2.2.1), effect_right.far (by omega) (hHeld.2.2.2.2.2.2.2.2.1), effect_right.far (by omega) (hHeld.2.2.2.2.2.2.2.2.2.1), effect_right.far (by omega) (hHeld.2.2.2.2.2.2.2.2.2.2)⟩ (fun hHeld => ?_)
  clear hK K
  refine pure_ (i := 17) (N := some 3) (v := ?_) (a' := ?_) #[true, true, true, true, true, true, true, true, true, true, true, true, true, true, true, true, true, true] rfl rfl (by kernel_rfl) (fun _ _ _ h => h) (Or.inl ⟨by rfl, ?_⟩) ?_ ?_
  rotate_left
  · intro w'
    go_simp
    with_reducible rfl
  rotate_left
  · simp only [Act.put, List.setIfInBounds_toArray, List.set_cons_zero, List.set_cons_succ, i64_w, i32_w]
    rfl
  refine done_ (by kernel_rfl) ?_

  go_wp2
  refine bodyPost_ret (v := .tuple #[.agg #[.int .i64 1, .int .i64 a1, .int .i64 a2, .int .i64 0, .int .i64 a4, .int .i64 0, .string a6, .string ⟨#[]⟩], .bool false]) (by simp [results, Try.results50, go_sem, hz0, hz1, hz2, hz3, hz4, hz5, hz6, hz7]) rfl ⟨rfl, ?_⟩
  repeat (with_reducible first | exact hB | exact Below.refl _ _ | refine pw_below_drewN ?_ _ | refine below_drew ?_ | refine Below.setCell ?_ (by simp) _ | refine Below.alloc ?_ (by simp <;> omega) _)
set_option maxRecDepth 100000 in
set_option maxHeartbeats 4000000 in
theorem effect_right.c1t (k : Nat) (a1 a2 a3 a4 a5 : Int) (a6 a7 : ByteArray) (A8 : Option Addr) (c8 : Nat) (l8 : List Int) (w : World) (hb : effect_place.f k a2 a6 = some true) (h4 : (a4 == 1) = true) :
    Calls Try.prog 50 #[.agg #[.int .i64 1, .int .i64 a1, .int .i64 a2, .int .i64 a3, .int .i64 a4, .int .i64 a5, .string a6, .string a7, .slice A8 l8.length c8]] w fun e w' => e = .returned (.tuple #[.agg #[.int .i64 1, .int .i64 a1, .int .i64 a2, .int .i64 0, .int .i64 a4, .int .i64 0, .string a6, .string ⟨#[]⟩], .bool true]) ∧ Below w.heap.size w w' := by
  have HBB := Aside0.mk hb
  clear hb
  go_enter Try.func50, Try.ntmps50
  go_wp2
  go_region
  go_wp2
  refine effect_right.gen (fun W => W.heap[w.heap.size]? = some (.cells #[.int .i64 1, .int .i64 a1, .int .i64 a2, .int .i64 a3, .int .i64 a4, .int .i64 a5, .string a6, .string a7, .slice A8 l8.length c8] 24 (0, 0)) ∧ W.heap[w.heap.size + 1]? = some (.cells #[.int .i64 0, .int .i64 0, .int .i64 0, .int .i64 0, .int .i64 0, .int .i64 0, .string ⟨#[]⟩, .string ⟨#[]⟩] 78 (0, 0)) ∧ W.heap[w.heap.size + 1 + 1]? = some (.cells #[.int .i64 1, .int .i64 a1, .int .i64 a2, .int .i64 0, .int .i64 a4, .int .i64 0, .string a6, .string ⟨#[]⟩] 78 (0, 0)) ∧ Below w.heap.size w W) ⟨effect_right.hp0 w _ _ _, effect_right.hp1 w _ _ _, effect_right.hp2 w _ _ _, effect_right.belo w _ _ _⟩ (fun W hW => ?_)
  obtain ⟨hE, hZ, hS, hB⟩ := hW
  refine start_ (n := 18) (S := fun w' => w'.cell? ⟨w.heap.size + 1 + 1, 0, none⟩ = some (.int .i64 1) ∧ w'.cell? ⟨w.heap.size + 1 + 1, 1, none⟩ = some (.int .i64 a1) ∧ w'.cell? ⟨w.heap.size + 1 + 1, 2, none⟩ = some (.int .i64 a2) ∧ w'.cell? ⟨w.heap.size + 1 + 1, 3, none⟩ = some (.int .i64 0) ∧ w'.cell? ⟨w.heap.size + 1 + 1, 4, none⟩ = some (.int .i64 a4) ∧ w'.cell? ⟨w.heap.size + 1 + 1, 5, none⟩ = some (.int .i64 0) ∧ w'.cell? ⟨w.heap.size + 1 + 1, 6, none⟩ = some (.string a6) ∧ w'.cell? ⟨w.heap.size + 1 + 1, 7, none⟩ = some (.string ⟨#[]⟩) ∧ w'.cell? ⟨w.heap.size, 2, none⟩ = some (.int .i64 a2) ∧ w'.cell? ⟨w.heap.size, 6, none⟩ = some (.string a6) ∧ w'.cell? ⟨w.heap.size, 4, none⟩ = some (.int .i64 a4)) (ds := []) #[false, false, false, false, false, false, false, false, false, false, false, false, false, false, false, false, false, false] (by kernel_rfl) rfl rfl ⟨blk_cell (blk_drew hS) 0, blk_cell (blk_drew hS) 1, blk_cell (blk_drew hS) 2, blk_cell (blk_drew hS) 3, blk_cell (blk_drew hS) 4, blk_cell (blk_drew hS) 5, blk_cell (blk_drew hS) 6, blk_cell (blk_drew hS) 7, blk_cell (blk_drew hE) 2, blk_cell (blk_drew hE) 6, blk_cell (blk_drew hE) 4⟩ (fun hHeld => ?_)
  refine pure_ (i := 1) (N := some 24) (v := ?_) (a' := ?_) #[false, true, false, false, false, false, false, false, false, false, false, false, false, false, false, false, false, false] rfl rfl (by kernel_rfl) (fun _ _ _ h => h) (Or.inl ⟨by rfl, ?_⟩) ?_ ?_
  rotate_left
  · intro w'
    go_simp
    with_reducible rfl
  rotate_left
  · simp only [Act.put, List.setIfInBounds_toArray, List.set_cons_zero, List.set_cons_succ, i64_w, i32_w]
    rfl
  refine pure_ (i := 3) (N := some 26) (v := ?_) (a' := ?_) #[false, true, false, true, false, false, false, false, false, false, false, false, false, false, false, false, false, false] rfl rfl (by kernel_rfl) (fun _ _ _ h => h) (Or.inl ⟨by rfl, ?_⟩) ?_ ?_
  rotate_left
  · intro w'
    go_simp
    with_reducible rfl
  rotate_left
  · simp only [Act.put, List.setIfInBounds_toArray, List.set_cons_zero, List.set_cons_succ, i64_w, i32_w]
    rfl
  refine take_ (i := 0) (N := some 23) (v := ?_) (a' := ?_) #[true, true, false, true, false, false, false, false, false, false, false, false, false, false, false, false, false, false] rfl rfl (by kernel_rfl) (fun _ _ _ h => h) (Or.inl ⟨by rfl, ?_⟩) hHeld ?_ ?_
  rotate_left
  · rintro w' ⟨s0, s1, s2, s3, s4, s5, s6, s7, s8, s9, s10⟩
    go_simp
    with_reducible rfl
  rotate_left
  · simp only [Act.put, List.setIfInBounds_toArray, List.set_cons_zero, List.set_cons_succ, i64_w, i32_w]
    rfl
  refine take_ (i := 2) (N := some 25) (v := ?_) (a' := ?_) #[true, true, true, true, false, false, false, false, false, false, false, false, false, false, false, false, false, false] rfl rfl (by kernel_rfl) (fun _ _ _ h => h) (Or.inl ⟨by rfl, ?_⟩) hHeld ?_ ?_
  rotate_left
  · rintro w' ⟨s0, s1, s2, s3, s4, s5, s6, s7, s8, s9, s10⟩
    go_simp
    with_reducible rfl
  rotate_left
  · simp only [Act.put, List.setIfInBounds_toArray, List.set_cons_zero, List.set_cons_succ, i64_w, i32_w]
    rfl
  refine take_ (i := 4) (N := some 27) (v := ?_) (a' := ?_) #[true, true, true, true, true, false, false, false, false, false, false, false, false, false, false, false, false, false] rfl rfl (by kernel_rfl) (fun _ _ _ h => h) (Or.inl ⟨by rfl, ?_⟩) hHeld ?_ ?_
  rotate_left
  · rintro w' ⟨s0, s1, s2, s3, s4, s5, s6, s7, s8, s9, s10⟩
    go_simp
    with_reducible rfl
  rotate_left
  · simp only [Act.put, List.setIfInBounds_toArray, List.set_cons_zero, List.set_cons_succ, i64_w, i32_w]
    rfl
  refine one_ (i := 5) (N := some 28) #[true, true, true, true, true, true, false, false, false, false, false, false, false, false, false, false, false, false] rfl rfl (by kernel_rfl) (by decide) (fun K hK => ?_)
  refine goes_ Try.func79 (by kernel_rfl) rfl #[.int .i64 a2, .string a6] (by rfl) rfl rfl (by simp only [List.map_toArray, List.map_cons, List.map_nil]; rfl) ?_
  with_reducible refine (effect_place.calls k a2 a6 true _ HBB.out).mono ?_
  rintro e w3 ⟨rfl, ⟨nd5, rfl⟩⟩
  refine ⟨_, rfl, ?_⟩
  refine hK.out _ _ ⟨hHeld.1, hHeld.2.1, hHeld.2.2.1, hHeld.2.2.2.1, hHeld.2.2.2.2.1, hHeld.2.2.2.2.2.1, hHeld.2.2.2.2.2.2.1, hHeld.2.2.2.2.2.2.2.1, hHeld.2.2.2.2.2.2.2.2.1, hHeld.2.2.2.2.2.2.2.2.2.1, hHeld.2.2.2.2.2.2.2.2.2.2⟩ (fun hHeld => ?_)
  clear hK K
  refine norm_ (a' := ?_) ?_ ?_
  rotate_left
  · show Act.put _ (some 28) _ = _
    simp only [Act.put, List.setIfInBounds_toArray, List.set_cons_zero, List.set_cons_succ, i64_w, i32_w]
    rfl
  refine pure_ (i := 6) (N := some 29) (v := ?_) (a' := ?_) #[true, true, true, true, true, true, true, false, false, false, false, false, false, false, false, false, false, false] rfl rfl (by kernel_rfl) (fun _ _ _ h => h) (Or.inl ⟨by rfl, ?_⟩) ?_ ?_
  rotate_left
  · intro w'
    go_simp
    with_reducible rfl
  rotate_left
  · simp only [Act.put, List.setIfInBounds_toArray, List.set_cons_zero, List.set_cons_succ, i64_w, i32_w]
    rfl
  refine pure_ (i := 7) (N := some 30) (v := ?_) (a' := ?_) #[true, true, true, true, true, true, true, true, false, false, false, false, false, false, false, false, false, false] rfl rfl (by kernel_rfl) (fun _ _ _ h => h) (Or.inl ⟨by rfl, ?_⟩) ?_ ?_
  rotate_left
  · intro w'
    go_simp
    with_reducible rfl
  rotate_left
  · simp only [Act.put, List.setIfInBounds_toArray, List.set_cons_zero, List.set_cons_succ, i64_w, i32_w]
    rfl
  refine take_ (i := 8) (N := some 31) (v := ?_) (a' := ?_) #[true, true, true, true, true, true, true, true, true, false, false, false, false, false, false, false, false, false] rfl rfl (by kernel_rfl) (fun _ _ _ h => h) (Or.inl ⟨by rfl, ?_⟩) hHeld ?_ ?_
  rotate_left
  · rintro w' ⟨s0, s1, s2, s3, s4, s5, s6, s7, s8, s9, s10⟩
    go_simp
    with_reducible rfl
  rotate_left
  · simp only [Act.put, List.setIfInBounds_toArray, List.set_cons_zero, List.set_cons_succ, i64_w, i32_w]
    rfl
  refine pure_ (i := 9) (N := some 32) (v := ?_) (a' := ?_) #[true, true, true, true, true, true, true, true, true, true, false, false, false, false, false, false, false, false] rfl rfl (by kernel_rfl) (fun _ _ _ h => h) (Or.inl ⟨by rfl, ?_⟩) ?_ ?_
  rotate_left
  · intro w'
    go_simp
    with_reducible rfl
  rotate_left
  · simp only [Act.put, List.setIfInBounds_toArray, List.set_cons_zero, List.set_cons_succ, i64_w, i32_w]
    rfl
  refine pure_ (i := 10) (N := some 33) (v := ?_) (a' := ?_) #[true, true, true, true, true, true, true, true, true, true, true, false, false, false, false, false, false, false] rfl rfl (by kernel_rfl) (fun _ _ _ h => h) (Or.inl ⟨by rfl, ?_⟩) ?_ ?_
  rotate_left
  · intro w'
    go_simp
    with_reducible rfl
  rotate_left
  · simp only [Act.put, List.setIfInBounds_toArray, List.set_cons_zero, List.set_cons_succ, i64_w, i32_w]
    rfl
  refine pure_ (i := 11) (N := some 34) (v := undef) (a' := ?_) #[true, true, true, true, true, true, true, true, true, true, true, true, false, false, false, false, false, false] rfl rfl (by kernel_rfl) (fun _ _ _ h => h) (Or.inr ⟨by rfl, rfl⟩) ?_ ?_
  rotate_left
  · simp only [Act.put, List.setIfInBounds_toArray, List.set_cons_zero, List.set_cons_succ, i64_w, i32_w]
    rfl
  refine pure_ (i := 12) (N := some 35) (v := undef) (a' := ?_) #[true, true, true, true, true, true, true, true, true, true, true, true, true, false, false, false, false, false] rfl rfl (by kernel_rfl) (fun _ _ _ h => h) (Or.inr ⟨by rfl, rfl⟩) ?_ ?_
  rotate_left
  · simp only [Act.put, List.setIfInBounds_toArray, List.set_cons_zero, List.set_cons_succ, i64_w, i32_w]
    rfl
  refine pure_ (i := 13) (N := some 36) (v := undef) (a' := ?_) #[true, true, true, true, true, true, true, true, true, true, true, true, true, true, false, false, false, false] rfl rfl (by kernel_rfl) (fun _ _ _ h => h) (Or.inr ⟨by rfl, rfl⟩) ?_ ?_
  rotate_left
  · simp only [Act.put, List.setIfInBounds_toArray, List.set_cons_zero, List.set_cons_succ, i64_w, i32_w]
    rfl
  refine pure_ (i := 14) (N := some 37) (v := ?_) (a' := ?_) #[true, true, true, true, true, true, true, true, true, true, true, true, true, true, true, false, false, false] rfl rfl (by kernel_rfl) (fun _ _ _ h => h) (Or.inl ⟨by rfl, ?_⟩) ?_ ?_
  rotate_left
  · intro w'
    go_simp
    with_reducible rfl
  rotate_left
  · simp only [Act.put, List.setIfInBounds_toArray, List.set_cons_zero, List.set_cons_succ, i64_w, i32_w]
    rfl
  refine pure_ (i := 15) (N := some 38) (v := ?_) (a' := ?_) #[true, true, true, true, true, true, true, true, true, true, true, true, true, true, true, true, false, false] rfl rfl (by kernel_rfl) (fun _ _ _ h => h) (Or.inl ⟨by rfl, ?_⟩) ?_ ?_
  rotate_left
  · intro w'
    go_simp
    with_reducible rfl
  rotate_left
  · simp only [Act.put, List.setIfInBounds_toArray, List.set_cons_zero, List.set_cons_succ, i64_w, i32_w]
    rfl
  refine one_ (i := 16) (N := none) #[true, true, true, true, true, true, true, true, true, true, true, true, true, true, true, true, true, false] rfl rfl (by kernel_rfl) (by decide) (fun K hK => ?_)
  have hz0 := blk_cell (hZ) 0
  have hz1 := blk_cell (hZ) 1
  have hz2 := blk_cell (hZ) 2
  have hz3 := blk_cell (hZ) 3
  have hz4 := blk_cell (hZ) 4
  have hz5 := blk_cell (hZ) 5
  have hz6 := blk_cell (hZ) 6
  have hz7 := blk_cell (hZ) 7
  have hf0 := blk_frozen (hZ) 0
  have hf1 := blk_frozen (hZ) 1
  have hf2 := blk_frozen (hZ) 2
  have hf3 := blk_frozen (hZ) 3
  have hf4 := blk_frozen (hZ) 4
  have hf5 := blk_frozen (hZ) 5
  have hf6 := blk_frozen (hZ) 6
  have hf7 := blk_frozen (hZ) 7
  refine skip_ (w1 := ?_) (by rfl) rfl ?_ ?_
  rotate_left
  · go_simp
    rfl
  refine hK.out _ _ ⟨effect_right.far (by omega) (hHeld.1), effect_right.far (by omega) (hHeld.2.1), effect_right.far (by omega) (hHeld.2.2.1), effect_right.far (by omega) (hHeld.2.2.2.1), effect_right.far (by omega) (hHeld.2.2.2.2.1), effect_right.far (by omega) (hHeld.2.2.2.2.2.1), effect_right.far (by omega) (hHeld.2.2.2.2.2.2.1), effect_right.far (by omega) (hHeld.2.2.2.2.2.2.2.1), effect_right.far (by omega) (hHeld.2.2.2.2.2.2.2.2.1), effect_right.far (by omega) (hHeld.2.2.2.2.2.2.2.2.2.1), effect_right.far (by omega) (hHeld.2.2.2.2.2.2.2.2.2.2)⟩ (fun hHeld => ?_)
  clear hK K
  refine pure_ (i := 17) (N := some 3) (v := ?_) (a' := ?_) #[true, true, true, true, true, true, true, true, true, true, true, true, true, true, true, true, true, true] rfl rfl (by kernel_rfl) (fun _ _ _ h => h) (Or.inl ⟨by rfl, ?_⟩) ?_ ?_
  rotate_left
  · intro w'
    go_simp
    with_reducible rfl
  rotate_left
  · simp only [Act.put, List.setIfInBounds_toArray, List.set_cons_zero, List.set_cons_succ, i64_w, i32_w]
    rfl
  refine done_ (by kernel_rfl) ?_

  go_wp2
  refine bodyPost_ret (v := .tuple #[.agg #[.int .i64 1, .int .i64 a1, .int .i64 a2, .int .i64 0, .int .i64 a4, .int .i64 0, .string a6, .string ⟨#[]⟩], .bool true]) (by simp [results, Try.results50, go_sem, hz0, hz1, hz2, hz3, hz4, hz5, hz6, hz7]) rfl ⟨rfl, ?_⟩
  repeat (with_reducible first | exact hB | exact Below.refl _ _ | refine pw_below_drewN ?_ _ | refine below_drew ?_ | refine Below.setCell ?_ (by simp) _ | refine Below.alloc ?_ (by simp <;> omega) _)
set_option maxRecDepth 100000 in
set_option maxHeartbeats 4000000 in
theorem effect_right.c1u (k : Nat) (a1 a2 a3 a4 a5 : Int) (a6 a7 : ByteArray) (A8 : Option Addr) (c8 : Nat) (l8 : List Int) (w : World) (hb : effect_place.f k a2 a6 = some true) (h4 : (a4 == 1) = false) :
    Calls Try.prog 50 #[.agg #[.int .i64 1, .int .i64 a1, .int .i64 a2, .int .i64 a3, .int .i64 a4, .int .i64 a5, .string a6, .string a7, .slice A8 l8.length c8]] w fun e w' => e = .returned (.tuple #[.agg #[.int .i64 1, .int .i64 a1, .int .i64 a2, .int .i64 0, .int .i64 a4, .int .i64 0, .string a6, .string ⟨#[]⟩], .bool (a4 == 2)]) ∧ Below w.heap.size w w' := by
  have HBB := Aside0.mk hb
  clear hb
  go_enter Try.func50, Try.ntmps50
  go_wp2
  go_region
  go_wp2
  refine effect_right.gen (fun W => W.heap[w.heap.size]? = some (.cells #[.int .i64 1, .int .i64 a1, .int .i64 a2, .int .i64 a3, .int .i64 a4, .int .i64 a5, .string a6, .string a7, .slice A8 l8.length c8] 24 (0, 0)) ∧ W.heap[w.heap.size + 1]? = some (.cells #[.int .i64 0, .int .i64 0, .int .i64 0, .int .i64 0, .int .i64 0, .int .i64 0, .string ⟨#[]⟩, .string ⟨#[]⟩] 78 (0, 0)) ∧ W.heap[w.heap.size + 1 + 1]? = some (.cells #[.int .i64 1, .int .i64 a1, .int .i64 a2, .int .i64 0, .int .i64 a4, .int .i64 0, .string a6, .string ⟨#[]⟩] 78 (0, 0)) ∧ Below w.heap.size w W) ⟨effect_right.hp0 w _ _ _, effect_right.hp1 w _ _ _, effect_right.hp2 w _ _ _, effect_right.belo w _ _ _⟩ (fun W hW => ?_)
  obtain ⟨hE, hZ, hS, hB⟩ := hW
  refine start_ (n := 18) (S := fun w' => w'.cell? ⟨w.heap.size + 1 + 1, 0, none⟩ = some (.int .i64 1) ∧ w'.cell? ⟨w.heap.size + 1 + 1, 1, none⟩ = some (.int .i64 a1) ∧ w'.cell? ⟨w.heap.size + 1 + 1, 2, none⟩ = some (.int .i64 a2) ∧ w'.cell? ⟨w.heap.size + 1 + 1, 3, none⟩ = some (.int .i64 0) ∧ w'.cell? ⟨w.heap.size + 1 + 1, 4, none⟩ = some (.int .i64 a4) ∧ w'.cell? ⟨w.heap.size + 1 + 1, 5, none⟩ = some (.int .i64 0) ∧ w'.cell? ⟨w.heap.size + 1 + 1, 6, none⟩ = some (.string a6) ∧ w'.cell? ⟨w.heap.size + 1 + 1, 7, none⟩ = some (.string ⟨#[]⟩) ∧ w'.cell? ⟨w.heap.size, 2, none⟩ = some (.int .i64 a2) ∧ w'.cell? ⟨w.heap.size, 6, none⟩ = some (.string a6) ∧ w'.cell? ⟨w.heap.size, 4, none⟩ = some (.int .i64 a4)) (ds := []) #[false, false, false, false, false, false, false, false, false, false, false, false, false, false, false, false, false, false] (by kernel_rfl) rfl rfl ⟨blk_cell (blk_drew hS) 0, blk_cell (blk_drew hS) 1, blk_cell (blk_drew hS) 2, blk_cell (blk_drew hS) 3, blk_cell (blk_drew hS) 4, blk_cell (blk_drew hS) 5, blk_cell (blk_drew hS) 6, blk_cell (blk_drew hS) 7, blk_cell (blk_drew hE) 2, blk_cell (blk_drew hE) 6, blk_cell (blk_drew hE) 4⟩ (fun hHeld => ?_)
  refine pure_ (i := 1) (N := some 24) (v := ?_) (a' := ?_) #[false, true, false, false, false, false, false, false, false, false, false, false, false, false, false, false, false, false] rfl rfl (by kernel_rfl) (fun _ _ _ h => h) (Or.inl ⟨by rfl, ?_⟩) ?_ ?_
  rotate_left
  · intro w'
    go_simp
    with_reducible rfl
  rotate_left
  · simp only [Act.put, List.setIfInBounds_toArray, List.set_cons_zero, List.set_cons_succ, i64_w, i32_w]
    rfl
  refine pure_ (i := 3) (N := some 26) (v := ?_) (a' := ?_) #[false, true, false, true, false, false, false, false, false, false, false, false, false, false, false, false, false, false] rfl rfl (by kernel_rfl) (fun _ _ _ h => h) (Or.inl ⟨by rfl, ?_⟩) ?_ ?_
  rotate_left
  · intro w'
    go_simp
    with_reducible rfl
  rotate_left
  · simp only [Act.put, List.setIfInBounds_toArray, List.set_cons_zero, List.set_cons_succ, i64_w, i32_w]
    rfl
  refine take_ (i := 0) (N := some 23) (v := ?_) (a' := ?_) #[true, true, false, true, false, false, false, false, false, false, false, false, false, false, false, false, false, false] rfl rfl (by kernel_rfl) (fun _ _ _ h => h) (Or.inl ⟨by rfl, ?_⟩) hHeld ?_ ?_
  rotate_left
  · rintro w' ⟨s0, s1, s2, s3, s4, s5, s6, s7, s8, s9, s10⟩
    go_simp
    with_reducible rfl
  rotate_left
  · simp only [Act.put, List.setIfInBounds_toArray, List.set_cons_zero, List.set_cons_succ, i64_w, i32_w]
    rfl
  refine take_ (i := 2) (N := some 25) (v := ?_) (a' := ?_) #[true, true, true, true, false, false, false, false, false, false, false, false, false, false, false, false, false, false] rfl rfl (by kernel_rfl) (fun _ _ _ h => h) (Or.inl ⟨by rfl, ?_⟩) hHeld ?_ ?_
  rotate_left
  · rintro w' ⟨s0, s1, s2, s3, s4, s5, s6, s7, s8, s9, s10⟩
    go_simp
    with_reducible rfl
  rotate_left
  · simp only [Act.put, List.setIfInBounds_toArray, List.set_cons_zero, List.set_cons_succ, i64_w, i32_w]
    rfl
  refine take_ (i := 4) (N := some 27) (v := ?_) (a' := ?_) #[true, true, true, true, true, false, false, false, false, false, false, false, false, false, false, false, false, false] rfl rfl (by kernel_rfl) (fun _ _ _ h => h) (Or.inl ⟨by rfl, ?_⟩) hHeld ?_ ?_
  rotate_left
  · rintro w' ⟨s0, s1, s2, s3, s4, s5, s6, s7, s8, s9, s10⟩
    go_simp
    with_reducible rfl
  rotate_left
  · simp only [Act.put, List.setIfInBounds_toArray, List.set_cons_zero, List.set_cons_succ, i64_w, i32_w]
    rfl
  refine one_ (i := 5) (N := some 28) #[true, true, true, true, true, true, false, false, false, false, false, false, false, false, false, false, false, false] rfl rfl (by kernel_rfl) (by decide) (fun K hK => ?_)
  refine goes_ Try.func79 (by kernel_rfl) rfl #[.int .i64 a2, .string a6] (by rfl) rfl rfl (by simp only [List.map_toArray, List.map_cons, List.map_nil]; rfl) ?_
  with_reducible refine (effect_place.calls k a2 a6 true _ HBB.out).mono ?_
  rintro e w3 ⟨rfl, ⟨nd5, rfl⟩⟩
  refine ⟨_, rfl, ?_⟩
  refine hK.out _ _ ⟨hHeld.1, hHeld.2.1, hHeld.2.2.1, hHeld.2.2.2.1, hHeld.2.2.2.2.1, hHeld.2.2.2.2.2.1, hHeld.2.2.2.2.2.2.1, hHeld.2.2.2.2.2.2.2.1, hHeld.2.2.2.2.2.2.2.2.1, hHeld.2.2.2.2.2.2.2.2.2.1, hHeld.2.2.2.2.2.2.2.2.2.2⟩ (fun hHeld => ?_)
  clear hK K
  refine norm_ (a' := ?_) ?_ ?_
  rotate_left
  · show Act.put _ (some 28) _ = _
    simp only [Act.put, List.setIfInBounds_toArray, List.set_cons_zero, List.set_cons_succ, i64_w, i32_w]
    rfl
  refine pure_ (i := 6) (N := some 29) (v := ?_) (a' := ?_) #[true, true, true, true, true, true, true, false, false, false, false, false, false, false, false, false, false, false] rfl rfl (by kernel_rfl) (fun _ _ _ h => h) (Or.inl ⟨by rfl, ?_⟩) ?_ ?_
  rotate_left
  · intro w'
    go_simp
    with_reducible rfl
  rotate_left
  · simp only [Act.put, List.setIfInBounds_toArray, List.set_cons_zero, List.set_cons_succ, i64_w, i32_w]
    rfl
  refine pure_ (i := 7) (N := some 30) (v := ?_) (a' := ?_) #[true, true, true, true, true, true, true, true, false, false, false, false, false, false, false, false, false, false] rfl rfl (by kernel_rfl) (fun _ _ _ h => h) (Or.inl ⟨by rfl, ?_⟩) ?_ ?_
  rotate_left
  · intro w'
    go_simp
    with_reducible rfl
  rotate_left
  · simp only [Act.put, List.setIfInBounds_toArray, List.set_cons_zero, List.set_cons_succ, i64_w, i32_w]
    rfl
  refine take_ (i := 8) (N := some 31) (v := ?_) (a' := ?_) #[true, true, true, true, true, true, true, true, true, false, false, false, false, false, false, false, false, false] rfl rfl (by kernel_rfl) (fun _ _ _ h => h) (Or.inl ⟨by rfl, ?_⟩) hHeld ?_ ?_
  rotate_left
  · rintro w' ⟨s0, s1, s2, s3, s4, s5, s6, s7, s8, s9, s10⟩
    go_simp
    with_reducible rfl
  rotate_left
  · simp only [Act.put, List.setIfInBounds_toArray, List.set_cons_zero, List.set_cons_succ, i64_w, i32_w]
    rfl
  refine pure_ (i := 9) (N := some 32) (v := ?_) (a' := ?_) #[true, true, true, true, true, true, true, true, true, true, false, false, false, false, false, false, false, false] rfl rfl (by kernel_rfl) (fun _ _ _ h => h) (Or.inl ⟨by rfl, ?_⟩) ?_ ?_
  rotate_left
  · intro w'
    go_simp
    with_reducible rfl
  rotate_left
  · simp only [Act.put, List.setIfInBounds_toArray, List.set_cons_zero, List.set_cons_succ, i64_w, i32_w]
    rfl
  refine pure_ (i := 10) (N := some 33) (v := ?_) (a' := ?_) #[true, true, true, true, true, true, true, true, true, true, true, false, false, false, false, false, false, false] rfl rfl (by kernel_rfl) (fun _ _ _ h => h) (Or.inl ⟨by rfl, ?_⟩) ?_ ?_
  rotate_left
  · intro w'
    go_simp
    with_reducible rfl
  rotate_left
  · simp only [Act.put, List.setIfInBounds_toArray, List.set_cons_zero, List.set_cons_succ, i64_w, i32_w]
    rfl
  refine pure_ (i := 11) (N := some 34) (v := ?_) (a' := ?_) #[true, true, true, true, true, true, true, true, true, true, true, true, false, false, false, false, false, false] rfl rfl (by kernel_rfl) (fun _ _ _ h => h) (Or.inl ⟨by rfl, ?_⟩) ?_ ?_
  rotate_left
  · intro w'
    go_simp
    with_reducible rfl
  rotate_left
  · simp only [Act.put, List.setIfInBounds_toArray, List.set_cons_zero, List.set_cons_succ, i64_w, i32_w]
    rfl
  refine take_ (i := 12) (N := some 35) (v := ?_) (a' := ?_) #[true, true, true, true, true, true, true, true, true, true, true, true, true, false, false, false, false, false] rfl rfl (by kernel_rfl) (fun _ _ _ h => h) (Or.inl ⟨by rfl, ?_⟩) hHeld ?_ ?_
  rotate_left
  · rintro w' ⟨s0, s1, s2, s3, s4, s5, s6, s7, s8, s9, s10⟩
    go_simp
    with_reducible rfl
  rotate_left
  · simp only [Act.put, List.setIfInBounds_toArray, List.set_cons_zero, List.set_cons_succ, i64_w, i32_w]
    rfl
  refine pure_ (i := 13) (N := some 36) (v := ?_) (a' := ?_) #[true, true, true, true, true, true, true, true, true, true, true, true, true, true, false, false, false, false] rfl rfl (by kernel_rfl) (fun _ _ _ h => h) (Or.inl ⟨by rfl, ?_⟩) ?_ ?_
  rotate_left
  · intro w'
    go_simp
    with_reducible rfl
  rotate_left
  · simp only [Act.put, List.setIfInBounds_toArray, List.set_cons_zero, List.set_cons_succ, i64_w, i32_w]
    rfl
  refine pure_ (i := 14) (N := some 37) (v := ?_) (a' := ?_) #[true, true, true, true, true, true, true, true, true, true, true, true, true, true, true, false, false, false] rfl rfl (by kernel_rfl) (fun _ _ _ h => h) (Or.inl ⟨by rfl, ?_⟩) ?_ ?_
  rotate_left
  · intro w'
    go_simp
    with_reducible rfl
  rotate_left
  · simp only [Act.put, List.setIfInBounds_toArray, List.set_cons_zero, List.set_cons_succ, i64_w, i32_w]
    rfl
  refine pure_ (i := 15) (N := some 38) (v := ?_) (a' := ?_) #[true, true, true, true, true, true, true, true, true, true, true, true, true, true, true, true, false, false] rfl rfl (by kernel_rfl) (fun _ _ _ h => h) (Or.inl ⟨by rfl, ?_⟩) ?_ ?_
  rotate_left
  · intro w'
    go_simp
    with_reducible rfl
  rotate_left
  · simp only [Act.put, List.setIfInBounds_toArray, List.set_cons_zero, List.set_cons_succ, i64_w, i32_w]
    rfl
  refine one_ (i := 16) (N := none) #[true, true, true, true, true, true, true, true, true, true, true, true, true, true, true, true, true, false] rfl rfl (by kernel_rfl) (by decide) (fun K hK => ?_)
  have hz0 := blk_cell (hZ) 0
  have hz1 := blk_cell (hZ) 1
  have hz2 := blk_cell (hZ) 2
  have hz3 := blk_cell (hZ) 3
  have hz4 := blk_cell (hZ) 4
  have hz5 := blk_cell (hZ) 5
  have hz6 := blk_cell (hZ) 6
  have hz7 := blk_cell (hZ) 7
  have hf0 := blk_frozen (hZ) 0
  have hf1 := blk_frozen (hZ) 1
  have hf2 := blk_frozen (hZ) 2
  have hf3 := blk_frozen (hZ) 3
  have hf4 := blk_frozen (hZ) 4
  have hf5 := blk_frozen (hZ) 5
  have hf6 := blk_frozen (hZ) 6
  have hf7 := blk_frozen (hZ) 7
  refine skip_ (w1 := ?_) (by rfl) rfl ?_ ?_
  rotate_left
  · go_simp
    rfl
  refine hK.out _ _ ⟨effect_right.far (by omega) (hHeld.1), effect_right.far (by omega) (hHeld.2.1), effect_right.far (by omega) (hHeld.2.2.1), effect_right.far (by omega) (hHeld.2.2.2.1), effect_right.far (by omega) (hHeld.2.2.2.2.1), effect_right.far (by omega) (hHeld.2.2.2.2.2.1), effect_right.far (by omega) (hHeld.2.2.2.2.2.2.1), effect_right.far (by omega) (hHeld.2.2.2.2.2.2.2.1), effect_right.far (by omega) (hHeld.2.2.2.2.2.2.2.2.1), effect_right.far (by omega) (hHeld.2.2.2.2.2.2.2.2.2.1), effect_right.far (by omega) (hHeld.2.2.2.2.2.2.2.2.2.2)⟩ (fun hHeld => ?_)
  clear hK K
  refine pure_ (i := 17) (N := some 3) (v := ?_) (a' := ?_) #[true, true, true, true, true, true, true, true, true, true, true, true, true, true, true, true, true, true] rfl rfl (by kernel_rfl) (fun _ _ _ h => h) (Or.inl ⟨by rfl, ?_⟩) ?_ ?_
  rotate_left
  · intro w'
    go_simp
    with_reducible rfl
  rotate_left
  · simp only [Act.put, List.setIfInBounds_toArray, List.set_cons_zero, List.set_cons_succ, i64_w, i32_w]
    rfl
  refine done_ (by kernel_rfl) ?_

  go_wp2
  refine bodyPost_ret (v := .tuple #[.agg #[.int .i64 1, .int .i64 a1, .int .i64 a2, .int .i64 0, .int .i64 a4, .int .i64 0, .string a6, .string ⟨#[]⟩], .bool (a4 == 2)]) (by simp [results, Try.results50, go_sem, hz0, hz1, hz2, hz3, hz4, hz5, hz6, hz7]) rfl ⟨rfl, ?_⟩
  repeat (with_reducible first | exact hB | exact Below.refl _ _ | refine pw_below_drewN ?_ _ | refine below_drew ?_ | refine Below.setCell ?_ (by simp) _ | refine Below.alloc ?_ (by simp <;> omega) _)
set_option maxRecDepth 100000 in
set_option maxHeartbeats 4000000 in
theorem effect_right.c5f (k : Nat) (a1 a2 a3 a4 a5 : Int) (a6 a7 : ByteArray) (A8 : Option Addr) (c8 : Nat) (l8 : List Int) (w : World) (hb : effect_place.f k a2 a6 = some false) :
    Calls Try.prog 50 #[.agg #[.int .i64 5, .int .i64 a1, .int .i64 a2, .int .i64 a3, .int .i64 a4, .int .i64 a5, .string a6, .string a7, .slice A8 l8.length c8]] w fun e w' => e = .returned (.tuple #[.agg #[.int .i64 5, .int .i64 a1, .int .i64 a2, .int .i64 a3, .int .i64 0, .int .i64 0, .string a6, .string a7], .bool false]) ∧ Below w.heap.size w w' := by
  have HBB := Aside0.mk hb
  clear hb
  go_enter Try.func50, Try.ntmps50
  go_wp2
  go_region
  go_wp2
  refine effect_right.gen (fun W => W.heap[w.heap.size]? = some (.cells #[.int .i64 5, .int .i64 a1, .int .i64 a2, .int .i64 a3, .int .i64 a4, .int .i64 a5, .string a6, .string a7, .slice A8 l8.length c8] 24 (0, 0)) ∧ W.heap[w.heap.size + 1]? = some (.cells #[.int .i64 0, .int .i64 0, .int .i64 0, .int .i64 0, .int .i64 0, .int .i64 0, .string ⟨#[]⟩, .string ⟨#[]⟩] 78 (0, 0)) ∧ W.heap[w.heap.size + 1 + 1]? = some (.cells #[.int .i64 5, .int .i64 a1, .int .i64 a2, .int .i64 a3, .int .i64 0, .int .i64 0, .string a6, .string a7] 78 (0, 0)) ∧ Below w.heap.size w W) ⟨effect_right.hp0 w _ _ _, effect_right.hp1 w _ _ _, effect_right.hp2 w _ _ _, effect_right.belo w _ _ _⟩ (fun W hW => ?_)
  obtain ⟨hE, hZ, hS, hB⟩ := hW
  refine start_ (n := 15) (S := fun w' => w'.cell? ⟨w.heap.size + 1 + 1, 0, none⟩ = some (.int .i64 5) ∧ w'.cell? ⟨w.heap.size + 1 + 1, 1, none⟩ = some (.int .i64 a1) ∧ w'.cell? ⟨w.heap.size + 1 + 1, 2, none⟩ = some (.int .i64 a2) ∧ w'.cell? ⟨w.heap.size + 1 + 1, 3, none⟩ = some (.int .i64 a3) ∧ w'.cell? ⟨w.heap.size + 1 + 1, 4, none⟩ = some (.int .i64 0) ∧ w'.cell? ⟨w.heap.size + 1 + 1, 5, none⟩ = some (.int .i64 0) ∧ w'.cell? ⟨w.heap.size + 1 + 1, 6, none⟩ = some (.string a6) ∧ w'.cell? ⟨w.heap.size + 1 + 1, 7, none⟩ = some (.string a7) ∧ w'.cell? ⟨w.heap.size, 2, none⟩ = some (.int .i64 a2) ∧ w'.cell? ⟨w.heap.size, 6, none⟩ = some (.string a6) ∧ w'.cell? ⟨w.heap.size, 3, none⟩ = some (.int .i64 a3) ∧ w'.cell? ⟨w.heap.size, 7, none⟩ = some (.string a7)) (ds := [13]) #[false, false, false, false, false, false, false, false, false, false, false, false, false, false, false] (by kernel_rfl) rfl rfl ⟨blk_cell (blk_drew hS) 0, blk_cell (blk_drew hS) 1, blk_cell (blk_drew hS) 2, blk_cell (blk_drew hS) 3, blk_cell (blk_drew hS) 4, blk_cell (blk_drew hS) 5, blk_cell (blk_drew hS) 6, blk_cell (blk_drew hS) 7, blk_cell (blk_drew hE) 2, blk_cell (blk_drew hE) 6, blk_cell (blk_drew hE) 3, blk_cell (blk_drew hE) 7⟩ (fun hHeld => ?_)
  refine pure_ (i := 1) (N := some 70) (v := ?_) (a' := ?_) #[false, true, false, false, false, false, false, false, false, false, false, false, false, false, false] rfl rfl (by kernel_rfl) (fun _ _ _ h => h) (Or.inl ⟨by rfl, ?_⟩) ?_ ?_
  rotate_left
  · intro w'
    go_simp
    with_reducible rfl
  rotate_left
  · simp only [Act.put, List.setIfInBounds_toArray, List.set_cons_zero, List.set_cons_succ, i64_w, i32_w]
    rfl
  refine pure_ (i := 3) (N := some 72) (v := ?_) (a' := ?_) #[false, true, false, true, false, false, false, false, false, false, false, false, false, false, false] rfl rfl (by kernel_rfl) (fun _ _ _ h => h) (Or.inl ⟨by rfl, ?_⟩) ?_ ?_
  rotate_left
  · intro w'
    go_simp
    with_reducible rfl
  rotate_left
  · simp only [Act.put, List.setIfInBounds_toArray, List.set_cons_zero, List.set_cons_succ, i64_w, i32_w]
    rfl
  refine take_ (i := 0) (N := some 69) (v := ?_) (a' := ?_) #[true, true, false, true, false, false, false, false, false, false, false, false, false, false, false] rfl rfl (by kernel_rfl) (fun _ _ _ h => h) (Or.inl ⟨by rfl, ?_⟩) hHeld ?_ ?_
  rotate_left
  · rintro w' ⟨s0, s1, s2, s3, s4, s5, s6, s7, s8, s9, s10, s11⟩
    go_simp
    with_reducible rfl
  rotate_left
  · simp only [Act.put, List.setIfInBounds_toArray, List.set_cons_zero, List.set_cons_succ, i64_w, i32_w]
    rfl
  refine take_ (i := 2) (N := some 71) (v := ?_) (a' := ?_) #[true, true, true, true, false, false, false, false, false, false, false, false, false, false, false] rfl rfl (by kernel_rfl) (fun _ _ _ h => h) (Or.inl ⟨by rfl, ?_⟩) hHeld ?_ ?_
  rotate_left
  · rintro w' ⟨s0, s1, s2, s3, s4, s5, s6, s7, s8, s9, s10, s11⟩
    go_simp
    with_reducible rfl
  rotate_left
  · simp only [Act.put, List.setIfInBounds_toArray, List.set_cons_zero, List.set_cons_succ, i64_w, i32_w]
    rfl
  refine take_ (i := 4) (N := some 73) (v := ?_) (a' := ?_) #[true, true, true, true, true, false, false, false, false, false, false, false, false, false, false] rfl rfl (by kernel_rfl) (fun _ _ _ h => h) (Or.inl ⟨by rfl, ?_⟩) hHeld ?_ ?_
  rotate_left
  · rintro w' ⟨s0, s1, s2, s3, s4, s5, s6, s7, s8, s9, s10, s11⟩
    go_simp
    with_reducible rfl
  rotate_left
  · simp only [Act.put, List.setIfInBounds_toArray, List.set_cons_zero, List.set_cons_succ, i64_w, i32_w]
    rfl
  refine one_ (i := 5) (N := some 74) #[true, true, true, true, true, true, false, false, false, false, false, false, false, false, false] rfl rfl (by kernel_rfl) (by decide) (fun K hK => ?_)
  refine goes_ Try.func79 (by kernel_rfl) rfl #[.int .i64 a2, .string a6] (by rfl) rfl rfl (by simp only [List.map_toArray, List.map_cons, List.map_nil]; rfl) ?_
  with_reducible refine (effect_place.calls k a2 a6 false _ HBB.out).mono ?_
  rintro e w3 ⟨rfl, ⟨nd5, rfl⟩⟩
  refine ⟨_, rfl, ?_⟩
  refine hK.out _ _ ⟨hHeld.1, hHeld.2.1, hHeld.2.2.1, hHeld.2.2.2.1, hHeld.2.2.2.2.1, hHeld.2.2.2.2.2.1, hHeld.2.2.2.2.2.2.1, hHeld.2.2.2.2.2.2.2.1, hHeld.2.2.2.2.2.2.2.2.1, hHeld.2.2.2.2.2.2.2.2.2.1, hHeld.2.2.2.2.2.2.2.2.2.2.1, hHeld.2.2.2.2.2.2.2.2.2.2.2⟩ (fun hHeld => ?_)
  clear hK K
  refine norm_ (a' := ?_) ?_ ?_
  rotate_left
  · show Act.put _ (some 74) _ = _
    simp only [Act.put, List.setIfInBounds_toArray, List.set_cons_zero, List.set_cons_succ, i64_w, i32_w]
    rfl
  refine pure_ (i := 6) (N := some 75) (v := ?_) (a' := ?_) #[true, true, true, true, true, true, true, false, false, false, false, false, false, false, false] rfl rfl (by kernel_rfl) (fun _ _ _ h => h) (Or.inl ⟨by rfl, ?_⟩) ?_ ?_
  rotate_left
  · intro w'
    go_simp
    with_reducible rfl
  rotate_left
  · simp only [Act.put, List.setIfInBounds_toArray, List.set_cons_zero, List.set_cons_succ, i64_w, i32_w]
    rfl
  refine pure_ (i := 7) (N := some 76) (v := undef) (a' := ?_) #[true, true, true, true, true, true, true, true, false, false, false, false, false, false, false] rfl rfl (by kernel_rfl) (fun _ _ _ h => h) (Or.inr ⟨by rfl, rfl⟩) ?_ ?_
  rotate_left
  · simp only [Act.put, List.setIfInBounds_toArray, List.set_cons_zero, List.set_cons_succ, i64_w, i32_w]
    rfl
  refine pure_ (i := 8) (N := some 77) (v := undef) (a' := ?_) #[true, true, true, true, true, true, true, true, true, false, false, false, false, false, false] rfl rfl (by kernel_rfl) (fun _ _ _ h => h) (Or.inr ⟨by rfl, rfl⟩) ?_ ?_
  rotate_left
  · simp only [Act.put, List.setIfInBounds_toArray, List.set_cons_zero, List.set_cons_succ, i64_w, i32_w]
    rfl
  refine pure_ (i := 9) (N := some 78) (v := undef) (a' := ?_) #[true, true, true, true, true, true, true, true, true, true, false, false, false, false, false] rfl rfl (by kernel_rfl) (fun _ _ _ h => h) (Or.inr ⟨by rfl, rfl⟩) ?_ ?_
  rotate_left
  · simp only [Act.put, List.setIfInBounds_toArray, List.set_cons_zero, List.set_cons_succ, i64_w, i32_w]
    rfl
  refine pure_ (i := 10) (N := some 79) (v := undef) (a' := ?_) #[true, true, true, true, true, true, true, true, true, true, true, false, false, false, false] rfl rfl (by kernel_rfl) (fun _ _ _ h => h) (Or.inr ⟨by rfl, rfl⟩) ?_ ?_
  rotate_left
  · simp only [Act.put, List.setIfInBounds_toArray, List.set_cons_zero, List.set_cons_succ, i64_w, i32_w]
    rfl
  refine pure_ (i := 11) (N := some 80) (v := undef) (a' := ?_) #[true, true, true, true, true, true, true, true, true, true, true, true, false, false, false] rfl rfl (by kernel_rfl) (fun _ _ _ h => h) (Or.inr ⟨by rfl, rfl⟩) ?_ ?_
  rotate_left
  · simp only [Act.put, List.setIfInBounds_toArray, List.set_cons_zero, List.set_cons_succ, i64_w, i32_w]
    rfl
  refine pure_ (i := 12) (N := some 81) (v := ?_) (a' := ?_) #[true, true, true, true, true, true, true, true, true, true, true, true, true, false, false] rfl rfl (by kernel_rfl) (fun _ _ _ h => h) (Or.inl ⟨by rfl, ?_⟩) ?_ ?_
  rotate_left
  · intro w'
    go_simp
    with_reducible rfl
  rotate_left
  · simp only [Act.put, List.setIfInBounds_toArray, List.set_cons_zero, List.set_cons_succ, i64_w, i32_w]
    rfl
  refine last_ (i := 13) (N := none) #[true, true, true, true, true, true, true, true, true, true, true, true, true, true, false] rfl rfl (by kernel_rfl) (by decide) (fun K hK => ?_)
  have hz0 := blk_cell (hZ) 0
  have hz1 := blk_cell (hZ) 1
  have hz2 := blk_cell (hZ) 2
  have hz3 := blk_cell (hZ) 3
  have hz4 := blk_cell (hZ) 4
  have hz5 := blk_cell (hZ) 5
  have hz6 := blk_cell (hZ) 6
  have hz7 := blk_cell (hZ) 7
  have hf0 := blk_frozen (hZ) 0
  have hf1 := blk_frozen (hZ) 1
  have hf2 := blk_frozen (hZ) 2
  have hf3 := blk_frozen (hZ) 3
  have hf4 := blk_frozen (hZ) 4
  have hf5 := blk_frozen (hZ) 5
  have hf6 := blk_frozen (hZ) 6
  have hf7 := blk_frozen (hZ) 7
  refine skip_ (w1 := ?_) (by rfl) rfl ?_ ?_
  rotate_left
  · go_simp
    rfl
  refine hK.out _ _ ?_
  clear hK K
  refine pure_ (i := 14) (N := some 3) (v := ?_) (a' := ?_) #[true, true, true, true, true, true, true, true, true, true, true, true, true, true, true] rfl rfl (by kernel_rfl) (fun _ _ _ h => h) (Or.inl ⟨by rfl, ?_⟩) ?_ ?_
  rotate_left
  · intro w'
    go_simp
    with_reducible rfl
  rotate_left
  · simp only [Act.put, List.setIfInBounds_toArray, List.set_cons_zero, List.set_cons_succ, i64_w, i32_w]
    rfl
  refine done_ (by kernel_rfl) ?_

  go_wp2
  refine bodyPost_ret (v := .tuple #[.agg #[.int .i64 5, .int .i64 a1, .int .i64 a2, .int .i64 a3, .int .i64 0, .int .i64 0, .string a6, .string a7], .bool false]) (by simp [results, Try.results50, go_sem, hz0, hz1, hz2, hz3, hz4, hz5, hz6, hz7]) rfl ⟨rfl, ?_⟩
  repeat (with_reducible first | exact hB | exact Below.refl _ _ | refine pw_below_drewN ?_ _ | refine below_drew ?_ | refine Below.setCell ?_ (by simp) _ | refine Below.alloc ?_ (by simp <;> omega) _)
set_option maxRecDepth 100000 in
set_option maxHeartbeats 4000000 in
theorem effect_right.c5t (k : Nat) (a1 a2 a3 a4 a5 : Int) (a6 a7 : ByteArray) (A8 : Option Addr) (c8 : Nat) (l8 : List Int) (w : World) (c : Bool) (hb : effect_place.f k a2 a6 = some true) (hc : effect_place.f k a3 a7 = some c) :
    Calls Try.prog 50 #[.agg #[.int .i64 5, .int .i64 a1, .int .i64 a2, .int .i64 a3, .int .i64 a4, .int .i64 a5, .string a6, .string a7, .slice A8 l8.length c8]] w fun e w' => e = .returned (.tuple #[.agg #[.int .i64 5, .int .i64 a1, .int .i64 a2, .int .i64 a3, .int .i64 0, .int .i64 0, .string a6, .string a7], .bool c]) ∧ Below w.heap.size w w' := by
  have HBB := Aside0.mk hb
  clear hb
  have HCC := Aside0.mk hc
  clear hc
  go_enter Try.func50, Try.ntmps50
  go_wp2
  go_region
  go_wp2
  refine effect_right.gen (fun W => W.heap[w.heap.size]? = some (.cells #[.int .i64 5, .int .i64 a1, .int .i64 a2, .int .i64 a3, .int .i64 a4, .int .i64 a5, .string a6, .string a7, .slice A8 l8.length c8] 24 (0, 0)) ∧ W.heap[w.heap.size + 1]? = some (.cells #[.int .i64 0, .int .i64 0, .int .i64 0, .int .i64 0, .int .i64 0, .int .i64 0, .string ⟨#[]⟩, .string ⟨#[]⟩] 78 (0, 0)) ∧ W.heap[w.heap.size + 1 + 1]? = some (.cells #[.int .i64 5, .int .i64 a1, .int .i64 a2, .int .i64 a3, .int .i64 0, .int .i64 0, .string a6, .string a7] 78 (0, 0)) ∧ Below w.heap.size w W) ⟨effect_right.hp0 w _ _ _, effect_right.hp1 w _ _ _, effect_right.hp2 w _ _ _, effect_right.belo w _ _ _⟩ (fun W hW => ?_)
  obtain ⟨hE, hZ, hS, hB⟩ := hW
  refine start_ (n := 15) (S := fun w' => w'.cell? ⟨w.heap.size + 1 + 1, 0, none⟩ = some (.int .i64 5) ∧ w'.cell? ⟨w.heap.size + 1 + 1, 1, none⟩ = some (.int .i64 a1) ∧ w'.cell? ⟨w.heap.size + 1 + 1, 2, none⟩ = some (.int .i64 a2) ∧ w'.cell? ⟨w.heap.size + 1 + 1, 3, none⟩ = some (.int .i64 a3) ∧ w'.cell? ⟨w.heap.size + 1 + 1, 4, none⟩ = some (.int .i64 0) ∧ w'.cell? ⟨w.heap.size + 1 + 1, 5, none⟩ = some (.int .i64 0) ∧ w'.cell? ⟨w.heap.size + 1 + 1, 6, none⟩ = some (.string a6) ∧ w'.cell? ⟨w.heap.size + 1 + 1, 7, none⟩ = some (.string a7) ∧ w'.cell? ⟨w.heap.size, 2, none⟩ = some (.int .i64 a2) ∧ w'.cell? ⟨w.heap.size, 6, none⟩ = some (.string a6) ∧ w'.cell? ⟨w.heap.size, 3, none⟩ = some (.int .i64 a3) ∧ w'.cell? ⟨w.heap.size, 7, none⟩ = some (.string a7)) (ds := [13]) #[false, false, false, false, false, false, false, false, false, false, false, false, false, false, false] (by kernel_rfl) rfl rfl ⟨blk_cell (blk_drew hS) 0, blk_cell (blk_drew hS) 1, blk_cell (blk_drew hS) 2, blk_cell (blk_drew hS) 3, blk_cell (blk_drew hS) 4, blk_cell (blk_drew hS) 5, blk_cell (blk_drew hS) 6, blk_cell (blk_drew hS) 7, blk_cell (blk_drew hE) 2, blk_cell (blk_drew hE) 6, blk_cell (blk_drew hE) 3, blk_cell (blk_drew hE) 7⟩ (fun hHeld => ?_)
  refine pure_ (i := 1) (N := some 70) (v := ?_) (a' := ?_) #[false, true, false, false, false, false, false, false, false, false, false, false, false, false, false] rfl rfl (by kernel_rfl) (fun _ _ _ h => h) (Or.inl ⟨by rfl, ?_⟩) ?_ ?_
  rotate_left
  · intro w'
    go_simp
    with_reducible rfl
  rotate_left
  · simp only [Act.put, List.setIfInBounds_toArray, List.set_cons_zero, List.set_cons_succ, i64_w, i32_w]
    rfl
  refine pure_ (i := 3) (N := some 72) (v := ?_) (a' := ?_) #[false, true, false, true, false, false, false, false, false, false, false, false, false, false, false] rfl rfl (by kernel_rfl) (fun _ _ _ h => h) (Or.inl ⟨by rfl, ?_⟩) ?_ ?_
  rotate_left
  · intro w'
    go_simp
    with_reducible rfl
  rotate_left
  · simp only [Act.put, List.setIfInBounds_toArray, List.set_cons_zero, List.set_cons_succ, i64_w, i32_w]
    rfl
  refine take_ (i := 0) (N := some 69) (v := ?_) (a' := ?_) #[true, true, false, true, false, false, false, false, false, false, false, false, false, false, false] rfl rfl (by kernel_rfl) (fun _ _ _ h => h) (Or.inl ⟨by rfl, ?_⟩) hHeld ?_ ?_
  rotate_left
  · rintro w' ⟨s0, s1, s2, s3, s4, s5, s6, s7, s8, s9, s10, s11⟩
    go_simp
    with_reducible rfl
  rotate_left
  · simp only [Act.put, List.setIfInBounds_toArray, List.set_cons_zero, List.set_cons_succ, i64_w, i32_w]
    rfl
  refine take_ (i := 2) (N := some 71) (v := ?_) (a' := ?_) #[true, true, true, true, false, false, false, false, false, false, false, false, false, false, false] rfl rfl (by kernel_rfl) (fun _ _ _ h => h) (Or.inl ⟨by rfl, ?_⟩) hHeld ?_ ?_
  rotate_left
  · rintro w' ⟨s0, s1, s2, s3, s4, s5, s6, s7, s8, s9, s10, s11⟩
    go_simp
    with_reducible rfl
  rotate_left
  · simp only [Act.put, List.setIfInBounds_toArray, List.set_cons_zero, List.set_cons_succ, i64_w, i32_w]
    rfl
  refine take_ (i := 4) (N := some 73) (v := ?_) (a' := ?_) #[true, true, true, true, true, false, false, false, false, false, false, false, false, false, false] rfl rfl (by kernel_rfl) (fun _ _ _ h => h) (Or.inl ⟨by rfl, ?_⟩) hHeld ?_ ?_
  rotate_left
  · rintro w' ⟨s0, s1, s2, s3, s4, s5, s6, s7, s8, s9, s10, s11⟩
    go_simp
    with_reducible rfl
  rotate_left
  · simp only [Act.put, List.setIfInBounds_toArray, List.set_cons_zero, List.set_cons_succ, i64_w, i32_w]
    rfl
  refine one_ (i := 5) (N := some 74) #[true, true, true, true, true, true, false, false, false, false, false, false, false, false, false] rfl rfl (by kernel_rfl) (by decide) (fun K hK => ?_)
  refine goes_ Try.func79 (by kernel_rfl) rfl #[.int .i64 a2, .string a6] (by rfl) rfl rfl (by simp only [List.map_toArray, List.map_cons, List.map_nil]; rfl) ?_
  with_reducible refine (effect_place.calls k a2 a6 true _ HBB.out).mono ?_
  rintro e w3 ⟨rfl, ⟨nd5, rfl⟩⟩
  refine ⟨_, rfl, ?_⟩
  refine hK.out _ _ ⟨hHeld.1, hHeld.2.1, hHeld.2.2.1, hHeld.2.2.2.1, hHeld.2.2.2.2.1, hHeld.2.2.2.2.2.1, hHeld.2.2.2.2.2.2.1, hHeld.2.2.2.2.2.2.2.1, hHeld.2.2.2.2.2.2.2.2.1, hHeld.2.2.2.2.2.2.2.2.2.1, hHeld.2.2.2.2.2.2.2.2.2.2.1, hHeld.2.2.2.2.2.2.2.2.2.2.2⟩ (fun hHeld => ?_)
  clear hK K
  refine norm_ (a' := ?_) ?_ ?_
  rotate_left
  · show Act.put _ (some 74) _ = _
    simp only [Act.put, List.setIfInBounds_toArray, List.set_cons_zero, List.set_cons_succ, i64_w, i32_w]
    rfl
  refine pure_ (i := 6) (N := some 75) (v := ?_) (a' := ?_) #[true, true, true, true, true, true, true, false, false, false, false, false, false, false, false] rfl rfl (by kernel_rfl) (fun _ _ _ h => h) (Or.inl ⟨by rfl, ?_⟩) ?_ ?_
  rotate_left
  · intro w'
    go_simp
    with_reducible rfl
  rotate_left
  · simp only [Act.put, List.setIfInBounds_toArray, List.set_cons_zero, List.set_cons_succ, i64_w, i32_w]
    rfl
  refine pure_ (i := 7) (N := some 76) (v := ?_) (a' := ?_) #[true, true, true, true, true, true, true, true, false, false, false, false, false, false, false] rfl rfl (by kernel_rfl) (fun _ _ _ h => h) (Or.inl ⟨by rfl, ?_⟩) ?_ ?_
  rotate_left
  · intro w'
    go_simp
    with_reducible rfl
  rotate_left
  · simp only [Act.put, List.setIfInBounds_toArray, List.set_cons_zero, List.set_cons_succ, i64_w, i32_w]
    rfl
  refine pure_ (i := 9) (N := some 78) (v := ?_) (a' := ?_) #[true, true, true, true, true, true, true, true, false, true, false, false, false, false, false] rfl rfl (by kernel_rfl) (fun _ _ _ h => h) (Or.inl ⟨by rfl, ?_⟩) ?_ ?_
  rotate_left
  · intro w'
    go_simp
    with_reducible rfl
  rotate_left
  · simp only [Act.put, List.setIfInBounds_toArray, List.set_cons_zero, List.set_cons_succ, i64_w, i32_w]
    rfl
  refine take_ (i := 8) (N := some 77) (v := ?_) (a' := ?_) #[true, true, true, true, true, true, true, true, true, true, false, false, false, false, false] rfl rfl (by kernel_rfl) (fun _ _ _ h => h) (Or.inl ⟨by rfl, ?_⟩) hHeld ?_ ?_
  rotate_left
  · rintro w' ⟨s0, s1, s2, s3, s4, s5, s6, s7, s8, s9, s10, s11⟩
    go_simp
    with_reducible rfl
  rotate_left
  · simp only [Act.put, List.setIfInBounds_toArray, List.set_cons_zero, List.set_cons_succ, i64_w, i32_w]
    rfl
  refine take_ (i := 10) (N := some 79) (v := ?_) (a' := ?_) #[true, true, true, true, true, true, true, true, true, true, true, false, false, false, false] rfl rfl (by kernel_rfl) (fun _ _ _ h => h) (Or.inl ⟨by rfl, ?_⟩) hHeld ?_ ?_
  rotate_left
  · rintro w' ⟨s0, s1, s2, s3, s4, s5, s6, s7, s8, s9, s10, s11⟩
    go_simp
    with_reducible rfl
  rotate_left
  · simp only [Act.put, List.setIfInBounds_toArray, List.set_cons_zero, List.set_cons_succ, i64_w, i32_w]
    rfl
  refine one_ (i := 11) (N := some 80) #[true, true, true, true, true, true, true, true, true, true, true, true, false, false, false] rfl rfl (by kernel_rfl) (by decide) (fun K hK => ?_)
  refine goes_ Try.func79 (by kernel_rfl) rfl #[.int .i64 a3, .string a7] (by rfl) rfl rfl (by simp only [List.map_toArray, List.map_cons, List.map_nil]; rfl) ?_
  with_reducible refine (effect_place.calls k a3 a7 c _ HCC.out).mono ?_
  rintro e w3 ⟨rfl, ⟨nd11, rfl⟩⟩
  refine ⟨_, rfl, ?_⟩
  refine hK.out _ _ ⟨hHeld.1, hHeld.2.1, hHeld.2.2.1, hHeld.2.2.2.1, hHeld.2.2.2.2.1, hHeld.2.2.2.2.2.1, hHeld.2.2.2.2.2.2.1, hHeld.2.2.2.2.2.2.2.1, hHeld.2.2.2.2.2.2.2.2.1, hHeld.2.2.2.2.2.2.2.2.2.1, hHeld.2.2.2.2.2.2.2.2.2.2.1, hHeld.2.2.2.2.2.2.2.2.2.2.2⟩ (fun hHeld => ?_)
  clear hK K
  refine norm_ (a' := ?_) ?_ ?_
  rotate_left
  · show Act.put _ (some 80) _ = _
    simp only [Act.put, List.setIfInBounds_toArray, List.set_cons_zero, List.set_cons_succ, i64_w, i32_w]
    rfl
  refine pure_ (i := 12) (N := some 81) (v := ?_) (a' := ?_) #[true, true, true, true, true, true, true, true, true, true, true, true, true, false, false] rfl rfl (by kernel_rfl) (fun _ _ _ h => h) (Or.inl ⟨by rfl, ?_⟩) ?_ ?_
  rotate_left
  · intro w'
    go_simp
    with_reducible rfl
  rotate_left
  · simp only [Act.put, List.setIfInBounds_toArray, List.set_cons_zero, List.set_cons_succ, i64_w, i32_w]
    rfl
  refine last_ (i := 13) (N := none) #[true, true, true, true, true, true, true, true, true, true, true, true, true, true, false] rfl rfl (by kernel_rfl) (by decide) (fun K hK => ?_)
  have hz0 := blk_cell (hZ) 0
  have hz1 := blk_cell (hZ) 1
  have hz2 := blk_cell (hZ) 2
  have hz3 := blk_cell (hZ) 3
  have hz4 := blk_cell (hZ) 4
  have hz5 := blk_cell (hZ) 5
  have hz6 := blk_cell (hZ) 6
  have hz7 := blk_cell (hZ) 7
  have hf0 := blk_frozen (hZ) 0
  have hf1 := blk_frozen (hZ) 1
  have hf2 := blk_frozen (hZ) 2
  have hf3 := blk_frozen (hZ) 3
  have hf4 := blk_frozen (hZ) 4
  have hf5 := blk_frozen (hZ) 5
  have hf6 := blk_frozen (hZ) 6
  have hf7 := blk_frozen (hZ) 7
  refine skip_ (w1 := ?_) (by rfl) rfl ?_ ?_
  rotate_left
  · go_simp
    rfl
  refine hK.out _ _ ?_
  clear hK K
  refine pure_ (i := 14) (N := some 3) (v := ?_) (a' := ?_) #[true, true, true, true, true, true, true, true, true, true, true, true, true, true, true] rfl rfl (by kernel_rfl) (fun _ _ _ h => h) (Or.inl ⟨by rfl, ?_⟩) ?_ ?_
  rotate_left
  · intro w'
    go_simp
    with_reducible rfl
  rotate_left
  · simp only [Act.put, List.setIfInBounds_toArray, List.set_cons_zero, List.set_cons_succ, i64_w, i32_w]
    rfl
  refine done_ (by kernel_rfl) ?_

  go_wp2
  refine bodyPost_ret (v := .tuple #[.agg #[.int .i64 5, .int .i64 a1, .int .i64 a2, .int .i64 a3, .int .i64 0, .int .i64 0, .string a6, .string a7], .bool c]) (by simp [results, Try.results50, go_sem, hz0, hz1, hz2, hz3, hz4, hz5, hz6, hz7]) rfl ⟨rfl, ?_⟩
  repeat (with_reducible first | exact hB | exact Below.refl _ _ | refine pw_below_drewN ?_ _ | refine below_drew ?_ | refine Below.setCell ?_ (by simp) _ | refine Below.alloc ?_ (by simp <;> omega) _)
set_option maxRecDepth 100000 in
set_option maxHeartbeats 4000000 in
theorem effect_right.c8 (k : Nat) (a1 a2 a3 a4 a5 : Int) (a6 a7 : ByteArray) (A8 : Option Addr) (c8 : Nat) (l8 : List Int) (w : World) :
    Calls Try.prog 50 #[.agg #[.int .i64 8, .int .i64 a1, .int .i64 a2, .int .i64 a3, .int .i64 a4, .int .i64 a5, .string a6, .string a7, .slice A8 l8.length c8]] w fun e w' => e = .returned (.tuple #[.agg #[.int .i64 8, .int .i64 a1, .int .i64 0, .int .i64 0, .int .i64 0, .int .i64 0, .string ⟨#[]⟩, .string ⟨#[]⟩], .bool true]) ∧ Below w.heap.size w w' := by
  go_enter Try.func50, Try.ntmps50
  go_wp2
  go_wp2
  refine bodyPost_ret (v := .tuple #[.agg #[.int .i64 8, .int .i64 a1, .int .i64 0, .int .i64 0, .int .i64 0, .int .i64 0, .string ⟨#[]⟩, .string ⟨#[]⟩], .bool true]) (by simp [results, Try.results50, go_sem]) rfl ⟨rfl, ?_⟩
  repeat (with_reducible first | exact hB | exact Below.refl _ _ | refine pw_below_drewN ?_ _ | refine below_drew ?_ | refine Below.setCell ?_ (by simp) _ | refine Below.alloc ?_ (by simp <;> omega) _)
set_option maxRecDepth 100000 in
set_option maxHeartbeats 4000000 in
theorem effect_right.c0 (k : Nat) (a1 a2 a3 a4 a5 : Int) (a6 a7 : ByteArray) (A8 : Option Addr) (c8 : Nat) (l8 : List Int) (w : World) (a0 : Int) (h1 : (a0 == 1) = false) (h2 : (a0 == 2) = false) (h3 : (a0 == 3) = false) (h4 : (a0 == 4) = false) (h5 : (a0 == 5) = false) (h6 : (a0 == 6) = false) (h7 : (a0 == 7) = false) (h8 : (a0 == 8) = false) :
    Calls Try.prog 50 #[.agg #[.int .i64 a0, .int .i64 a1, .int .i64 a2, .int .i64 a3, .int .i64 a4, .int .i64 a5, .string a6, .string a7, .slice A8 l8.length c8]] w fun e w' => e = .returned (.tuple #[.agg #[.int .i64 a0, .int .i64 a1, .int .i64 0, .int .i64 0, .int .i64 0, .int .i64 0, .string ⟨#[]⟩, .string ⟨#[]⟩], .bool false]) ∧ Below w.heap.size w w' := by
  go_enter Try.func50, Try.ntmps50
  go_wp2
  go_wp2
  refine bodyPost_ret (v := .tuple #[.agg #[.int .i64 a0, .int .i64 a1, .int .i64 0, .int .i64 0, .int .i64 0, .int .i64 0, .string ⟨#[]⟩, .string ⟨#[]⟩], .bool false]) (by simp [results, Try.results50, go_sem]) rfl ⟨rfl, ?_⟩
  repeat (with_reducible first | exact hB | exact Below.refl _ _ | refine pw_below_drewN ?_ _ | refine below_drew ?_ | refine Below.setCell ?_ (by simp) _ | refine Below.alloc ?_ (by simp <;> omega) _)
set_option maxRecDepth 100000 in
set_option maxHeartbeats 4000000 in
theorem effect_right.c6f (k : Nat) (a1 a2 a3 a4 a5 : Int) (a6 a7 : ByteArray) (A8 : Option Addr) (c8 : Nat) (l8 : List Int) (w : World) (h1 : decide (0 ≤ a5) = false) :
    Calls Try.prog 50 #[.agg #[.int .i64 6, .int .i64 a1, .int .i64 a2, .int .i64 a3, .int .i64 a4, .int .i64 a5, .string a6, .string a7, .slice A8 l8.length c8]] w fun e w' => e = .returned (.tuple #[.agg #[.int .i64 6, .int .i64 a1, .int .i64 0, .int .i64 0, .int .i64 0, .int .i64 a5, .string ⟨#[]⟩, .string ⟨#[]⟩], .bool false]) ∧ Below w.heap.size w w' := by
  go_enter Try.func50, Try.ntmps50
  go_wp2
  go_region
  all_goals go_wp2
  refine bodyPost_ret (v := .tuple #[.agg #[.int .i64 6, .int .i64 a1, .int .i64 0, .int .i64 0, .int .i64 0, .int .i64 a5, .string ⟨#[]⟩, .string ⟨#[]⟩], .bool false]) (by simp [results, Try.results50, go_sem]) rfl ⟨rfl, ?_⟩
  repeat (with_reducible first | exact hB | exact Below.refl _ _ | refine pw_below_drewN ?_ _ | refine below_drew ?_ | refine Below.setCell ?_ (by simp) _ | refine Below.alloc ?_ (by simp <;> omega) _)
set_option maxRecDepth 100000 in
set_option maxHeartbeats 4000000 in
theorem effect_right.c6t (k : Nat) (a1 a2 a3 a4 a5 : Int) (a6 a7 : ByteArray) (A8 : Option Addr) (c8 : Nat) (l8 : List Int) (w : World) (h1 : decide (0 ≤ a5) = true) :
    Calls Try.prog 50 #[.agg #[.int .i64 6, .int .i64 a1, .int .i64 a2, .int .i64 a3, .int .i64 a4, .int .i64 a5, .string a6, .string a7, .slice A8 l8.length c8]] w fun e w' => e = .returned (.tuple #[.agg #[.int .i64 6, .int .i64 a1, .int .i64 0, .int .i64 0, .int .i64 0, .int .i64 a5, .string ⟨#[]⟩, .string ⟨#[]⟩], .bool (decide (a5 ≤ 16384))]) ∧ Below w.heap.size w w' := by
  go_enter Try.func50, Try.ntmps50
  go_wp2
  go_region
  all_goals go_wp2
  refine bodyPost_ret (v := .tuple #[.agg #[.int .i64 6, .int .i64 a1, .int .i64 0, .int .i64 0, .int .i64 0, .int .i64 a5, .string ⟨#[]⟩, .string ⟨#[]⟩], .bool (decide (a5 ≤ 16384))]) (by simp [results, Try.results50, go_sem]) rfl ⟨rfl, ?_⟩
  repeat (with_reducible first | exact hB | exact Below.refl _ _ | refine pw_below_drewN ?_ _ | refine below_drew ?_ | refine Below.setCell ?_ (by simp) _ | refine Below.alloc ?_ (by simp <;> omega) _)
set_option maxRecDepth 100000 in
set_option maxHeartbeats 4000000 in
theorem effect_right.c7a (k : Nat) (a1 a2 a3 a4 a5 : Int) (a6 a7 : ByteArray) (A8 : Option Addr) (c8 : Nat) (l8 : List Int) (w : World) (h1 : decide (0 ≤ a4) = false) :
    Calls Try.prog 50 #[.agg #[.int .i64 7, .int .i64 a1, .int .i64 a2, .int .i64 a3, .int .i64 a4, .int .i64 a5, .string a6, .string a7, .slice A8 l8.length c8]] w fun e w' => e = .returned (.tuple #[.agg #[.int .i64 7, .int .i64 a1, .int .i64 0, .int .i64 0, .int .i64 a4, .int .i64 a5, .string ⟨#[]⟩, .string ⟨#[]⟩], .bool false]) ∧ Below w.heap.size w w' := by
  go_enter Try.func50, Try.ntmps50
  go_wp2
  go_region
  go_wp2
  go_region
  all_goals go_wp2
  refine bodyPost_ret (v := .tuple #[.agg #[.int .i64 7, .int .i64 a1, .int .i64 0, .int .i64 0, .int .i64 a4, .int .i64 a5, .string ⟨#[]⟩, .string ⟨#[]⟩], .bool false]) (by simp [results, Try.results50, go_sem]) rfl ⟨rfl, ?_⟩
  repeat (with_reducible first | exact hB | exact Below.refl _ _ | refine pw_below_drewN ?_ _ | refine below_drew ?_ | refine Below.setCell ?_ (by simp) _ | refine Below.alloc ?_ (by simp <;> omega) _)
set_option maxRecDepth 100000 in
set_option maxHeartbeats 4000000 in
theorem effect_right.c7b (k : Nat) (a1 a2 a3 a4 a5 : Int) (a6 a7 : ByteArray) (A8 : Option Addr) (c8 : Nat) (l8 : List Int) (w : World) (h1 : decide (0 ≤ a4) = true) (h2 : decide (a4 < 64) = false) :
    Calls Try.prog 50 #[.agg #[.int .i64 7, .int .i64 a1, .int .i64 a2, .int .i64 a3, .int .i64 a4, .int .i64 a5, .string a6, .string a7, .slice A8 l8.length c8]] w fun e w' => e = .returned (.tuple #[.agg #[.int .i64 7, .int .i64 a1, .int .i64 0, .int .i64 0, .int .i64 a4, .int .i64 a5, .string ⟨#[]⟩, .string ⟨#[]⟩], .bool false]) ∧ Below w.heap.size w w' := by
  go_enter Try.func50, Try.ntmps50
  go_wp2
  go_region
  go_wp2
  go_region
  all_goals go_wp2
  refine bodyPost_ret (v := .tuple #[.agg #[.int .i64 7, .int .i64 a1, .int .i64 0, .int .i64 0, .int .i64 a4, .int .i64 a5, .string ⟨#[]⟩, .string ⟨#[]⟩], .bool false]) (by simp [results, Try.results50, go_sem]) rfl ⟨rfl, ?_⟩
  repeat (with_reducible first | exact hB | exact Below.refl _ _ | refine pw_below_drewN ?_ _ | refine below_drew ?_ | refine Below.setCell ?_ (by simp) _ | refine Below.alloc ?_ (by simp <;> omega) _)
set_option maxRecDepth 100000 in
set_option maxHeartbeats 4000000 in
theorem effect_right.c7c (k : Nat) (a1 a2 a3 a4 a5 : Int) (a6 a7 : ByteArray) (A8 : Option Addr) (c8 : Nat) (l8 : List Int) (w : World) (h1 : decide (0 ≤ a4) = true) (h2 : decide (a4 < 64) = true) (h3 : decide (a5 ≤ 16384) = false) :
    Calls Try.prog 50 #[.agg #[.int .i64 7, .int .i64 a1, .int .i64 a2, .int .i64 a3, .int .i64 a4, .int .i64 a5, .string a6, .string a7, .slice A8 l8.length c8]] w fun e w' => e = .returned (.tuple #[.agg #[.int .i64 7, .int .i64 a1, .int .i64 0, .int .i64 0, .int .i64 a4, .int .i64 a5, .string ⟨#[]⟩, .string ⟨#[]⟩], .bool false]) ∧ Below w.heap.size w w' := by
  go_enter Try.func50, Try.ntmps50
  go_wp2
  go_region
  go_wp2
  go_region
  all_goals go_wp2
  refine bodyPost_ret (v := .tuple #[.agg #[.int .i64 7, .int .i64 a1, .int .i64 0, .int .i64 0, .int .i64 a4, .int .i64 a5, .string ⟨#[]⟩, .string ⟨#[]⟩], .bool false]) (by simp [results, Try.results50, go_sem]) rfl ⟨rfl, ?_⟩
  repeat (with_reducible first | exact hB | exact Below.refl _ _ | refine pw_below_drewN ?_ _ | refine below_drew ?_ | refine Below.setCell ?_ (by simp) _ | refine Below.alloc ?_ (by simp <;> omega) _)
set_option maxRecDepth 100000 in
set_option maxHeartbeats 4000000 in
theorem effect_right.c7d (k : Nat) (a1 a2 a3 a4 a5 : Int) (a6 a7 : ByteArray) (A8 : Option Addr) (c8 : Nat) (l8 : List Int) (w : World) (h1 : decide (0 ≤ a4) = true) (h2 : decide (a4 < 64) = true) (h3 : decide (a5 ≤ 16384) = true) :
    Calls Try.prog 50 #[.agg #[.int .i64 7, .int .i64 a1, .int .i64 a2, .int .i64 a3, .int .i64 a4, .int .i64 a5, .string a6, .string a7, .slice A8 l8.length c8]] w fun e w' => e = .returned (.tuple #[.agg #[.int .i64 7, .int .i64 a1, .int .i64 0, .int .i64 0, .int .i64 a4, .int .i64 a5, .string ⟨#[]⟩, .string ⟨#[]⟩], .bool (decide (wrap64 (a4 * 256) < a5))]) ∧ Below w.heap.size w w' := by
  go_enter Try.func50, Try.ntmps50
  go_wp2
  go_region
  go_wp2
  go_region
  all_goals go_wp2
  refine bodyPost_ret (v := .tuple #[.agg #[.int .i64 7, .int .i64 a1, .int .i64 0, .int .i64 0, .int .i64 a4, .int .i64 a5, .string ⟨#[]⟩, .string ⟨#[]⟩], .bool (decide (wrap64 (a4 * 256) < a5))]) (by simp [results, Try.results50, go_sem]) rfl ⟨rfl, ?_⟩
  repeat (with_reducible first | exact hB | exact Below.refl _ _ | refine pw_below_drewN ?_ _ | refine below_drew ?_ | refine Below.setCell ?_ (by simp) _ | refine Below.alloc ?_ (by simp <;> omega) _)
def effect_right.f (k : Nat) (a0 a1 a2 a3 a4 a5 : Int) (a6 a7 : ByteArray) (l8 : List Int) : Option (Int × Int × Int × Int × Int × Int × ByteArray × ByteArray × Bool) :=
  if a0 = 1 then (effect_place.f k a2 a6).bind fun b => some (1, a1, a2, 0, a4, 0, a6, ⟨#[]⟩, b && (a4 == 1 || a4 == 2))
  else if a0 = 2 ∨ a0 = 3 ∨ a0 = 4 then (effect_place.f k a2 a6).bind fun b => some (a0, a1, a2, 0, 0, 0, a6, ⟨#[]⟩, b)
  else if a0 = 5 then (effect_place.f k a2 a6).bind fun b => if b = true then (effect_place.f k a3 a7).bind fun c => some (5, a1, a2, a3, 0, 0, a6, a7, c) else some (5, a1, a2, a3, 0, 0, a6, a7, false)
  else if a0 = 6 then some (6, a1, 0, 0, 0, a5, ⟨#[]⟩, ⟨#[]⟩, decide (0 ≤ a5) && decide (a5 ≤ 16384))
  else if a0 = 7 then some (7, a1, 0, 0, a4, a5, ⟨#[]⟩, ⟨#[]⟩, decide (0 ≤ a4) && (decide (a4 < 64) && (decide (a5 ≤ 16384) && decide (wrap64 (a4 * 256) < a5))))
  else if a0 = 8 then some (8, a1, 0, 0, 0, 0, ⟨#[]⟩, ⟨#[]⟩, true) else some (a0, a1, 0, 0, 0, 0, ⟨#[]⟩, ⟨#[]⟩, false)
theorem effect_right.mono : ∀ a0 a1 a2 a3 a4 a5 a6 a7 a8 k, LeO (effect_right.f k a0 a1 a2 a3 a4 a5 a6 a7 a8) (effect_right.f (k + 1) a0 a1 a2 a3 a4 a5 a6 a7 a8) := by
  intro a0 a1 a2 a3 a4 a5 a6 a7 a8 k
  unfold effect_right.f
  refine LeO.ite (LeO.bind (effect_place.mono _ _ _) fun _ => LeO.refl _) (LeO.ite (LeO.bind (effect_place.mono _ _ _) fun _ => LeO.refl _) (LeO.ite (LeO.bind (effect_place.mono _ _ _) fun _ => LeO.ite (LeO.bind (effect_place.mono _ _ _) fun _ => LeO.refl _) (LeO.refl _)) (LeO.refl _)))
theorem effect_right.calls (k : Nat) (a0 a1 a2 a3 a4 a5 : Int) (a6 a7 : ByteArray) (A8 : Option Addr) (c8 : Nat) (l8 : List Int) (r1 r2 r3 r4 r5 r6 : Int) (r7 r8 : ByteArray) (r9 : Bool) (w : World) (hr : Kd.C (Kd.int .u8) w A8 l8.length l8) (hc : l8.length ≤ c8) (h : effect_right.f k a0 a1 a2 a3 a4 a5 a6 a7 l8 = some (r1, r2, r3, r4, r5, r6, r7, r8, r9)) :
    Calls Try.prog 50 #[.agg #[.int .i64 a0, .int .i64 a1, .int .i64 a2, .int .i64 a3, .int .i64 a4, .int .i64 a5, .string a6, .string a7, .slice A8 l8.length c8]] w fun e w' => e = .returned (.tuple #[.agg #[.int .i64 r1, .int .i64 r2, .int .i64 r3, .int .i64 r4, .int .i64 r5, .int .i64 r6, .string r7, .string r8], .bool r9]) ∧ Below w.heap.size w w' := by
  unfold effect_right.f at h
  by_cases k1 : a0 = 1
  · subst k1
    rw [if_pos rfl] at h
    obtain ⟨b, hb, h⟩ := Option.bind_eq_some_iff.mp h
    simp only [Option.some.injEq, Prod.mk.injEq] at h
    obtain ⟨rfl, rfl, rfl, rfl, rfl, rfl, rfl, rfl, rfl⟩ := h
    cases b with
    | false => exact effect_right.c1f k _ _ a3 _ a5 _ a7 A8 c8 l8 w hb
    | true =>
      by_cases h4 : a4 = 1
      · subst h4; exact effect_right.c1t k _ _ a3 _ a5 _ a7 A8 c8 l8 w hb (by simp)
      · have e : (a4 == 1) = false := beq_eq_false_iff_ne.mpr h4
        rw [e]; exact effect_right.c1u k _ _ a3 _ a5 _ a7 A8 c8 l8 w hb e
  rw [if_neg k1] at h
  by_cases k2 : a0 = 2 ∨ a0 = 3 ∨ a0 = 4
  · rw [if_pos k2] at h
    obtain ⟨b, hb, h⟩ := Option.bind_eq_some_iff.mp h
    simp only [Option.some.injEq, Prod.mk.injEq] at h
    obtain ⟨rfl, rfl, rfl, rfl, rfl, rfl, rfl, rfl, rfl⟩ := h
    rcases k2 with rfl | rfl | rfl
    · exact effect_right.c2 k _ _ a3 a4 a5 _ a7 A8 c8 l8 w _ hb
    · exact effect_right.c3 k _ _ a3 a4 a5 _ a7 A8 c8 l8 w _ hb
    · exact effect_right.c4 k _ _ a3 a4 a5 _ a7 A8 c8 l8 w _ hb
  rw [if_neg k2] at h
  by_cases k5 : a0 = 5
  · subst k5
    rw [if_pos rfl] at h
    obtain ⟨b, hb, h⟩ := Option.bind_eq_some_iff.mp h
    cases b with
    | false =>
      rw [if_neg (by decide)] at h
      simp only [Option.some.injEq, Prod.mk.injEq] at h
      obtain ⟨rfl, rfl, rfl, rfl, rfl, rfl, rfl, rfl, rfl⟩ := h
      exact effect_right.c5f k _ _ _ a4 a5 _ _ A8 c8 l8 w hb
    | true =>
      rw [if_pos rfl] at h
      obtain ⟨c, hc2, h⟩ := Option.bind_eq_some_iff.mp h
      simp only [Option.some.injEq, Prod.mk.injEq] at h
      obtain ⟨rfl, rfl, rfl, rfl, rfl, rfl, rfl, rfl, rfl⟩ := h
      exact effect_right.c5t k _ _ _ a4 a5 _ _ A8 c8 l8 w _ hb hc2
  rw [if_neg k5] at h
  by_cases k6 : a0 = 6
  · subst k6
    rw [if_pos rfl] at h
    simp only [Option.some.injEq, Prod.mk.injEq] at h
    obtain ⟨rfl, rfl, rfl, rfl, rfl, rfl, rfl, rfl, rfl⟩ := h
    cases e : decide (0 ≤ a5) with
    | false => exact effect_right.c6f k _ a2 a3 a4 _ a6 a7 A8 c8 l8 w e
    | true => exact effect_right.c6t k _ a2 a3 a4 _ a6 a7 A8 c8 l8 w e
  rw [if_neg k6] at h
  by_cases k7 : a0 = 7
  · subst k7
    rw [if_pos rfl] at h
    simp only [Option.some.injEq, Prod.mk.injEq] at h
    obtain ⟨rfl, rfl, rfl, rfl, rfl, rfl, rfl, rfl, rfl⟩ := h
    cases e1 : decide (0 ≤ a4) with
    | false => exact effect_right.c7a k _ a2 a3 _ _ a6 a7 A8 c8 l8 w e1
    | true =>
      cases e2 : decide (a4 < 64) with
      | false => exact effect_right.c7b k _ a2 a3 _ _ a6 a7 A8 c8 l8 w e1 e2
      | true =>
        cases e3 : decide (a5 ≤ 16384) with
        | false => exact effect_right.c7c k _ a2 a3 _ _ a6 a7 A8 c8 l8 w e1 e2 e3
        | true => exact effect_right.c7d k _ a2 a3 _ _ a6 a7 A8 c8 l8 w e1 e2 e3
  rw [if_neg k7] at h
  by_cases k8 : a0 = 8
  · subst k8
    rw [if_pos rfl] at h
    simp only [Option.some.injEq, Prod.mk.injEq] at h
    obtain ⟨rfl, rfl, rfl, rfl, rfl, rfl, rfl, rfl, rfl⟩ := h
    exact effect_right.c8 k _ a2 a3 a4 a5 a6 a7 A8 c8 l8 w
  rw [if_neg k8] at h
  simp only [Option.some.injEq, Prod.mk.injEq] at h
  obtain ⟨rfl, rfl, rfl, rfl, rfl, rfl, rfl, rfl, rfl⟩ := h
  exact effect_right.c0 k _ a2 a3 a4 a5 a6 a7 A8 c8 l8 w a0 (beq_eq_false_iff_ne.mpr k1) (beq_eq_false_iff_ne.mpr fun e => k2 (Or.inl e)) (beq_eq_false_iff_ne.mpr fun e => k2 (Or.inr (Or.inl e))) (beq_eq_false_iff_ne.mpr fun e => k2 (Or.inr (Or.inr e))) (beq_eq_false_iff_ne.mpr k5) (beq_eq_false_iff_ne.mpr k6) (beq_eq_false_iff_ne.mpr k7) (beq_eq_false_iff_ne.mpr k8)
attribute [local go_sem] L.setCell_drewN max2_int min2_int max_two min_two max_three min_three max_four min_four

end Go.Proofs.Yteoklaofbdfjlaa.PEffectChecks
