/- gen: Recipe.other and Recipe.one at the example's recipe. -/
import Derived.Test.YtnikcccobfcndaaGa
namespace Go.Proofs.Ytnikcccobfcndaa.Ga
open Go.RowKit Go.Proofs.YtnikcccobfcndaaW.PrintWords Go.Proofs.Ytnikcccobfcndaa.PGenSeeds
set_option linter.unusedVariables false
abbrev RC : Array Value := #[.int .i64 2, .int .i64 3, .int .i64 1, .int .i64 0, .int .i64 0, .int .i64 0, .int .u64 0]
/-- A call of eight cells, each of one cell. -/
def IsCall (v : Value) : Prop := ∃ cs : Array Value, v = .agg cs ∧ cs.size = 8 ∧ cs.all (·.oneCell') = true
abbrev F (b : Nat) : Value := .func (.func 45) #[] #[.pointer (some ⟨b, 0, none⟩)]
theorem path (k : Int) (w : World) (h0 : 0 ≤ k) (h1 : k < 8) : Calls Try.prog 53 #[.int .i64 k] w fun e w' => ∃ p : ByteArray, e = .returned (.string p) ∧ Below w.heap.size w w' := by
  obtain ⟨r, hr⟩ : ∃ r, gen_path.f k = some r := by
    unfold gen_path.f
    rw [Option.bind_some, if_pos (by rw [strOfNums_size]; simp)]
    exact ⟨_, rfl⟩
  exact (gen_path.calls k r w hr).mono fun e w' h => ⟨r, h⟩
abbrev Z : Array Value := #[.int .i64 0, .int .i64 0, .int .i64 0, .int .i64 0, .int .i64 0, .string ⟨#[]⟩, .string ⟨#[]⟩, .slice none 0 0]
/-- A frame's world: the recipe's box, the result's. -/
structure Inv (b : Nat) (w wk : World) : Prop where
  but : But b w wk
  box : Box b wk
  recp : wk.heap[w.heap.size]? = some (.cells RC 60 (0, 0))
  res : wk.heap[w.heap.size + 1]? = some (.cells Z 42 (0, 0))
theorem Box.below {b : Nat} {w w' : World} (h : Box b w) (hb : Below w.heap.size w w') : Box b w' := by
  obtain ⟨s, h0, h1⟩ := h; exact ⟨s, h0, blk_below h1 hb⟩
theorem Box.lt {b : Nat} {w : World} (h : Box b w) : b < w.heap.size := by obtain ⟨s, _, h⟩ := h; exact blk_lt h
theorem Inv.below {b : Nat} {w x y : World} (h : Inv b w x) (hb : Below x.heap.size x y) : Inv b w y :=
  ⟨h.but.trans (But.of (Nat.le_of_lt h.box.lt) hb), h.box.below hb, blk_below h.recp hb, blk_below h.res hb⟩
theorem Inv.draw {b : Nat} {w x y : World} (h : Inv b w x) (hl : b < w.heap.size) (hx : Box b y) (hb : But b x y) : Inv b w y :=
  ⟨h.but.trans hb, hx, hb.blk h.recp (by omega), hb.blk h.res (by omega)⟩
theorem Inv.start {b : Nat} {w : World} (h : Box b w) : Inv b w ((w.alloc (.cells RC 60)).alloc (.cells Z 42)) := by
  have hb : Below w.heap.size w ((w.alloc (.cells RC 60)).alloc (.cells Z 42)) := below_alloc (below_alloc (Below.refl _ w) _) _
  refine ⟨But.of (Nat.le_of_lt h.lt) hb, h.below hb, blk_alloc (blk_new w _) _, ?_⟩
  have := blk_new (w.alloc (.cells RC 60)) (.cells Z 42)
  rwa [World.size_alloc] at this
/-- Block g alone is another. -/
structure Far (g : Nat) (x y : World) : Prop where
  below : Below g x y
  rest : ∀ k, k ≠ g → y.heap[k]? = x.heap[k]?
theorem Far.refl (g : Nat) (x : World) : Far g x x := ⟨Below.refl _ _, fun _ _ => rfl⟩
theorem Far.set {g : Nat} {x y : World} (h : Far g x y) (j : Nat) (v : Value) : Far g x (y.setCell ⟨g, j, none⟩ v) :=
  ⟨h.below.setCell (Nat.le_refl g) v, fun k hk => (Below.heap_setCell y ⟨g, j, none⟩ v k hk).trans (h.rest k hk)⟩
theorem Far.row (g : Nat) (x : World) (cs : Array Value) : Far g x (x.setRow g cs) :=
  ⟨⟨rfl, rfl, rfl, by simp [World.setRow], fun k hk => setRow_other x _ k cs (by omega)⟩, fun k hk => setRow_other x _ k cs hk⟩
theorem Inv.far {b : Nat} {w x y : World} (h : Inv b w x) (hl : b < w.heap.size) (hf : Far (w.heap.size + 1) x y) : Box b y ∧ But b w y := by
  refine ⟨?_, h.but.trans' hf.below hf.rest hl⟩
  obtain ⟨s, h0, h1⟩ := h.box
  exact ⟨s, h0, (hf.rest b (by omega)).trans h1⟩
theorem Inv.fin {b : Nat} {w x : World} (h : Inv b w x) (hl : b < w.heap.size) (cs : Array Value) : (x.setRow (w.heap.size + 1) cs).heap[w.heap.size + 1]? = some (.cells cs 42 (0, 0)) ∧ Box b (x.setRow (w.heap.size + 1) cs) ∧ But b w (x.setRow (w.heap.size + 1) cs) :=
  ⟨setRow_heap x _ _ cs 42 (0, 0) h.res, h.far hl (Far.row _ x cs)⟩
theorem Inv.fin8 {b : Nat} {w x : World} (h : Inv b w x) (hl : b < w.heap.size) (c0 c1 c2 c3 c4 c5 c6 c7 : Value) :
    ((((((((x.setCell ⟨w.heap.size + 1, 0, none⟩ c0).setCell ⟨w.heap.size + 1, 1, none⟩ c1).setCell ⟨w.heap.size + 1, 2, none⟩ c2).setCell ⟨w.heap.size + 1, 3, none⟩ c3).setCell ⟨w.heap.size + 1, 4, none⟩ c4).setCell ⟨w.heap.size + 1, 5, none⟩ c5).setCell ⟨w.heap.size + 1, 6, none⟩ c6).setCell ⟨w.heap.size + 1, 7, none⟩ c7).heap[w.heap.size + 1]? = some (.cells #[c0, c1, c2, c3, c4, c5, c6, c7] 42 (0, 0)) ∧
    Box b ((((((((x.setCell ⟨w.heap.size + 1, 0, none⟩ c0).setCell ⟨w.heap.size + 1, 1, none⟩ c1).setCell ⟨w.heap.size + 1, 2, none⟩ c2).setCell ⟨w.heap.size + 1, 3, none⟩ c3).setCell ⟨w.heap.size + 1, 4, none⟩ c4).setCell ⟨w.heap.size + 1, 5, none⟩ c5).setCell ⟨w.heap.size + 1, 6, none⟩ c6).setCell ⟨w.heap.size + 1, 7, none⟩ c7) ∧
    But b w ((((((((x.setCell ⟨w.heap.size + 1, 0, none⟩ c0).setCell ⟨w.heap.size + 1, 1, none⟩ c1).setCell ⟨w.heap.size + 1, 2, none⟩ c2).setCell ⟨w.heap.size + 1, 3, none⟩ c3).setCell ⟨w.heap.size + 1, 4, none⟩ c4).setCell ⟨w.heap.size + 1, 5, none⟩ c5).setCell ⟨w.heap.size + 1, 6, none⟩ c6).setCell ⟨w.heap.size + 1, 7, none⟩ c7) :=
  ⟨(blk_set (blk_set (blk_set (blk_set (blk_set (blk_set (blk_set (blk_set h.res 0 c0) 1 c1) 2 c2) 3 c3) 4 c4) 5 c5) 6 c6) 7 c7).trans (by first | kernel_rfl | simp [Z]), h.far hl ((((((((Far.refl _ x).set 0 c0).set 1 c1).set 2 c2).set 3 c3).set 4 c4).set 5 c5).set 6 c6 |>.set 7 c7)⟩
set_option maxHeartbeats 4000000 in
set_option maxRecDepth 100000 in
theorem other (b : Nat) (k : Int) (w : World) (hb : Box b w) (h0 : 0 ≤ k) (h1 : k < 7) :
    Calls Try.prog 47 #[.agg RC, .int .i64 k, F b] w fun e w' => ∃ v, e = .returned v ∧ IsCall v ∧ Box b w' ∧ But b w w' := by
  have hlt : b < w.heap.size := hb.lt
  have HI0 := Aside0.mk (Inv.start hb)
  have H0 := Aside0.mk h0
  have H1 := Aside0.mk h1
  clear hb h0 h1
  go_enter Try.func47, Try.ntmps47
  go_wp2_with (first
    | (go_at_call 45; (with_reducible refine (draw b 6 _ HI0.out.box (by decide) (by decide)).mono ?_); rintro e x1 ⟨v, rfl, hv0, hv1, hx, hB⟩; have HI1 := Aside0.mk (HI0.out.draw hlt hx hB); have HI2 := HI1; have hr2 : x1.cell? ⟨w.heap.size, 2, none⟩ = some (.int .i64 1) := blk_cell HI1.out.recp 2; clear hx hB)
    | (go_at_call 45; (with_reducible refine (draw b 4 _ HI1.out.box (by decide) (by decide)).mono ?_); rintro e x2 ⟨v2, rfl, hv20, hv21, hx, hB⟩; have HI2 := Aside0.mk (HI1.out.draw hlt hx hB); clear hx hB)
    | (go_at_call 53; (with_reducible refine (path k _ H0.out (Int.lt_trans H1.out (by decide))).mono ?_); rintro e x2 ⟨p, rfl, hB⟩; have HI2 := Aside0.mk (HI1.out.below hB); clear hB)
    | ((with_reducible refine' wpList_store_row rfl 42 _ _ rfl (w.heap.size + 1) _ ?hx ?hy 42 Z ?hg ?hi ?ho ?h1 ?_); (case hx => rfl); (case hy => rfl); (case hg => exact HI2.out.res); (case hi => first | kernel_rfl | rfl); (case ho => first | kernel_rfl | rfl); (case h1 => first | kernel_rfl | rfl | simp [Value.oneCell'])))
  all_goals first
    | (obtain ⟨f1, f2, f3⟩ := Inv.fin HI2.out hlt _; exact bodyPost_ret (v := .agg _) (L.results_c Try.results47 _ _ (w.heap.size + 1) 42 _ (0, 0) _ rfl f1 Try.underlying42 rfl (by kernel_rfl)) rfl ⟨_, rfl, ⟨_, rfl, rfl, (by first | kernel_rfl | rfl | simp [Value.oneCell'])⟩, f2, f3⟩)
    | skip
  have HD := Aside0.mk (HI1.out.below (below_drew (Below.refl _ _)))
  go_region_with (first
    | (go_at_call 53; (with_reducible refine (path k _ H0.out (Int.lt_trans H1.out (by decide))).mono ?_); rintro e x2 ⟨p, rfl, hB⟩; have HI2 := Aside0.mk (HD.out.below hB); have hr3 : x2.cell? ⟨w.heap.size, 2, none⟩ = some (.int .i64 1) := blk_cell HI2.out.recp 2; clear hB)
    | (go_at_call 53; (refine (path _ _ ?ha ?hb).mono ?_); (case ha => first | omega | (go_simp; done)); (case hb => omega); rintro e x3 ⟨p3, rfl, hB⟩; have HI3 := Aside0.mk (HI2.out.below hB); have c0 : x3.cell? ⟨w.heap.size + 1, 0, none⟩ = some (.int .i64 0) := blk_cell HI3.out.res 0; have c1 : x3.cell? ⟨w.heap.size + 1, 1, none⟩ = some (.int .i64 0) := blk_cell HI3.out.res 1; have c2 : x3.cell? ⟨w.heap.size + 1, 2, none⟩ = some (.int .i64 0) := blk_cell HI3.out.res 2; have c3 : x3.cell? ⟨w.heap.size + 1, 3, none⟩ = some (.int .i64 0) := blk_cell HI3.out.res 3; have c4 : x3.cell? ⟨w.heap.size + 1, 4, none⟩ = some (.int .i64 0) := blk_cell HI3.out.res 4; have c5 : x3.cell? ⟨w.heap.size + 1, 5, none⟩ = some (.string ⟨#[]⟩) := blk_cell HI3.out.res 5; have c6 : x3.cell? ⟨w.heap.size + 1, 6, none⟩ = some (.string ⟨#[]⟩) := blk_cell HI3.out.res 6; have c7 : x3.cell? ⟨w.heap.size + 1, 7, none⟩ = some (.slice none 0 0) := blk_cell HI3.out.res 7; have g0 := blk_frozen HI3.out.res 0; have g1 := blk_frozen HI3.out.res 1; have g2 := blk_frozen HI3.out.res 2; have g3 := blk_frozen HI3.out.res 3; have g4 := blk_frozen HI3.out.res 4; have g5 := blk_frozen HI3.out.res 5; have g6 := blk_frozen HI3.out.res 6; have g7 := blk_frozen HI3.out.res 7; clear hB))
  all_goals (go_wp2; obtain ⟨f1, f2, f3⟩ := Inv.fin8 HI3.out hlt (.int .i64 14) (.int .i64 0) (.int .i64 0) (.int .i64 0) (.int .i64 0) (.string p) (.string p3) (.slice none 0 0); exact bodyPost_ret (v := .agg _) (L.results_c Try.results47 _ _ (w.heap.size + 1) 42 _ (0, 0) _ rfl f1 Try.underlying42 rfl (by kernel_rfl)) rfl ⟨_, rfl, ⟨_, rfl, rfl, (by first | kernel_rfl | rfl | simp [Value.oneCell'])⟩, f2, f3⟩)
set_option maxHeartbeats 4000000 in
set_option maxRecDepth 100000 in
theorem one (b : Nat) (l : Value) (w : World) (hb : Box b w) :
    Calls Try.prog 41 #[.agg RC, l, F b] w fun e w' => ∃ v, e = .returned v ∧ IsCall v ∧ Box b w' ∧ But b w w' := by
  have hlt : b < w.heap.size := hb.lt
  have HI0 := Aside0.mk (Inv.start hb)
  clear hb
  go_enter Try.func41, Try.ntmps41
  go_wp2_with (first
    | (go_at_call 45; (with_reducible refine (draw b 1 _ HI0.out.box (by decide) (by decide)).mono ?_); rintro e x1 ⟨v1, rfl, hv10, hv11, hx, hB⟩; have HI1 := Aside0.mk (HI0.out.draw hlt hx hB); clear hx hB)
    | (go_at_call 45; (with_reducible refine (draw b 100 _ HI1.out.box (by decide) (by decide)).mono ?_); rintro e x2 ⟨v2, rfl, hv20, hv21, hx, hB⟩; have HI2 := Aside0.mk (HI1.out.draw hlt hx hB); have hq3 : x2.cell? ⟨w.heap.size, 3, none⟩ = some (.int .i64 0) := blk_cell HI2.out.recp 3; have hq4 : x2.cell? ⟨w.heap.size, 4, none⟩ = some (.int .i64 0) := blk_cell HI2.out.recp 4; have hnn : ¬ v2 < 0 := Int.not_lt.2 hv20; have hnw : decide (v2 < 0) = false := decide_eq_false hnn; clear hx hB)
    | ((with_reducible refine wpList_load_row (o := ⟨some 42, _, _, _, _, _⟩) ?hgd 60 (.tmp 3) ?ho w.heap.size ?hx 60 RC (0, 0) _ ?hg Try.underlying60 ?hd ?hi ?_); (case hgd => rfl); (case ho => rfl); (case hx => rfl); (case hg => exact HI2.out.recp); (case hd => rfl); (case hi => kernel_rfl))
    | (go_at_call 47; (with_reducible refine (other b v1 _ HI2.out.box hv10 (Int.lt_trans hv11 (by decide))).mono ?_); rintro e x3 ⟨v3, rfl, hv3, hx, hB⟩; obtain ⟨cs, rfl, hcs, hone⟩ := hv3; have HI3 := Aside0.mk (HI2.out.draw hlt hx hB); have HC := Aside0.mk hcs; have HO := Aside0.mk hone; clear hx hB hcs hone)
    | ((with_reducible refine wpList_store_row rfl 42 _ _ rfl (w.heap.size + 1) cs ?hx ?hy 42 Z ?hg ?hi ?ho ?h1 ?_); (case hx => rfl); (case hy => rfl); (case hg => exact HI3.out.res); (case hi => rw [HC.out]; kernel_rfl); (case ho => exact HC.out.symm); (case h1 => exact HO.out)))
  obtain ⟨f1, f2, f3⟩ := Inv.fin HI3.out hlt cs
  exact bodyPost_ret (v := .agg cs) (L.results_c Try.results41 _ _ (w.heap.size + 1) 42 cs (0, 0) _ rfl f1 Try.underlying42 rfl (by rw [HC.out]; kernel_rfl)) rfl ⟨_, rfl, ⟨cs, rfl, HC.out, HO.out⟩, f2, f3⟩
end Go.Proofs.Ytnikcccobfcndaa.Ga
