-- Written by a program of this session: the printer, with contracts put in that were proved by hand. Lean checks it.
import Derived.Test.YteoklaofbdfjlaaPEffectTouchesx0
import Derived.Test.YteoklaofbdfjlaaPEffectTouchesx6
namespace Go.Proofs.Yteoklaofbdfjlaa.PEffectTouches
open Go.RowKit Go.Proofs.YteoklaofbdfjlaaW.PrintWords Go.Proofs.YteoklaofbdfjlaaW.PrintLast Go.Proofs.YteoklaofbdfjlaaW.PrintMore
attribute [local go_sem] L.setCell_drewN max2_int min2_int max_two min_two max_three min_three max_four min_four   -- for this text's walks alone
set_option linter.unusedVariables false
set_option linter.unusedSimpArgs false

/-! ### sumplaw09_EffectTouches: function 4 -/
mutual
def sumplaw09_EffectTouches.l0 : Nat → List (S24) → Int → Int → Bool → Int → List (S24) → Int → Int → Option (Bool)
  | 0, _, _, _, _, _, _, _, _ => none
  | k + 1, x0, x1, x5, x6, x7, x17, x18, x19 => if x19 < x18 then (if 0 ≤ x19 then (if x19 < (x17.length : Int) then (if ((rd_T24 x17 x19).f1) = x1 then (sumplaw09_EffectTouches.j1 k x0 x1 x19 true x7 x17 x18 x19 ((rd_T24 x17 x19).f0) ((rd_T24 x17 x19).f1) ((rd_T24 x17 x19).f2) ((rd_T24 x17 x19).f3) ((rd_T24 x17 x19).f4) ((rd_T24 x17 x19).f5) ((rd_T24 x17 x19).f6) ((rd_T24 x17 x19).f7) ((rd_T24 x17 x19).f8)) else (sumplaw09_EffectTouches.j1 k x0 x1 x5 x6 x7 x17 x18 x19 ((rd_T24 x17 x19).f0) ((rd_T24 x17 x19).f1) ((rd_T24 x17 x19).f2) ((rd_T24 x17 x19).f3) ((rd_T24 x17 x19).f4) ((rd_T24 x17 x19).f5) ((rd_T24 x17 x19).f6) ((rd_T24 x17 x19).f7) ((rd_T24 x17 x19).f8))) else (none)) else (none)) else ((effect_Last.f k x0 x1).bind fun bt139 => (if bt139.1 = x5 then (if (bt139.2 == x6) = true then ((effect_Pages.f k x0).bind fun t141 => (some (t141 == x7))) else (some false)) else (some false)))
def sumplaw09_EffectTouches.j1 : Nat → List (S24) → Int → Int → Bool → Int → List (S24) → Int → Int → Int → Int → Int → Int → Int → Int → ByteArray → ByteArray → List Int → Option (Bool)
  | 0, _, _, _, _, _, _, _, _, _, _, _, _, _, _, _, _, _ => none
  | k + 1, x0, x1, x5, x6, x7, x17, x18, x19, x144000, x144001, x144002, x144003, x144004, x144005, x144006, x144007, x144008 => if x144000 = 7 then ((effect_Touches.f x144000 x144001 x144002 x144003 x144004 x144005 x144006 x144007 x144008 x1).bind fun t144 => (if (t144 != (x144001 == x1)) = true then (some false) else (sumplaw09_EffectTouches.l0 k x0 x1 x5 x6 (wrap64 (x7 + 1)) x17 x18 (wrap64 (x19 + 1))))) else ((effect_Touches.f x144000 x144001 x144002 x144003 x144004 x144005 x144006 x144007 x144008 x1).bind fun t145 => (if (t145 != (x144001 == x1)) = true then (some false) else (sumplaw09_EffectTouches.l0 k x0 x1 x5 x6 x7 x17 x18 (wrap64 (x19 + 1)))))
end
def sumplaw09_EffectTouches.f (k : Nat) (l0 : List (S24)) (a1 : Int) : Option (Bool) := (sumplaw09_awake.f k).bind fun t137 => (if t137 = true then ((sumplaw09_Few.f k l0).bind fun t138 => (if t138 = true then (sumplaw09_EffectTouches.l0 k l0 a1 0 false 0 l0 (l0.length : Int) 0) else (some true))) else (some false))
theorem sumplaw09_EffectTouches.mono_l : ∀ k, (∀ y0 y1 y2 y3 y4 y5 y6 y7, LeO (sumplaw09_EffectTouches.l0 k y0 y1 y2 y3 y4 y5 y6 y7) (sumplaw09_EffectTouches.l0 (k + 1) y0 y1 y2 y3 y4 y5 y6 y7)) ∧ (∀ y0 y1 y2 y3 y4 y5 y6 y7 y8 y9 y10 y11 y12 y13 y14 y15 y16, LeO (sumplaw09_EffectTouches.j1 k y0 y1 y2 y3 y4 y5 y6 y7 y8 y9 y10 y11 y12 y13 y14 y15 y16) (sumplaw09_EffectTouches.j1 (k + 1) y0 y1 y2 y3 y4 y5 y6 y7 y8 y9 y10 y11 y12 y13 y14 y15 y16))
  | 0 => ⟨fun _ _ _ _ _ _ _ _ r h => by simp [sumplaw09_EffectTouches.l0] at h, fun _ _ _ _ _ _ _ _ _ _ _ _ _ _ _ _ _ r h => by simp [sumplaw09_EffectTouches.j1] at h⟩
  | k + 1 => by
    obtain ⟨ih0, ih1⟩ := sumplaw09_EffectTouches.mono_l k
    refine ⟨?_, ?_⟩
    · intro y0 y1 y2 y3 y4 y5 y6 y7
      unfold sumplaw09_EffectTouches.l0
      repeat' first
      | (with_reducible exact ih0 _ _ _ _ _ _ _ _)
      | (with_reducible exact ih1 _ _ _ _ _ _ _ _ _ _ _ _ _ _ _ _ _)
      | (with_reducible exact effect_Last.mono _ _ _)
      | (with_reducible exact effect_Pages.mono _ _)
      | (with_reducible exact sumplaw09_Few.mono _ _)
      | (with_reducible exact sumplaw09_awake.mono _)
      | (with_reducible exact LeO.refl _)
      | (with_reducible exact LeO.none _)
      | (with_reducible refine LeO.ite ?_ ?_)
      | (with_reducible refine LeO.bind ?_ (fun _ => ?_))
      | exact ih0 _ _ _ _ _ _ _ _
      | exact ih1 _ _ _ _ _ _ _ _ _ _ _ _ _ _ _ _ _
      | exact effect_Last.mono _ _ _
      | exact effect_Pages.mono _ _
      | exact sumplaw09_Few.mono _ _
      | exact sumplaw09_awake.mono _
      | exact LeO.none _
      | refine LeO.ite ?_ ?_
      | refine LeO.bind ?_ (fun _ => ?_)
    · intro y0 y1 y2 y3 y4 y5 y6 y7 y8 y9 y10 y11 y12 y13 y14 y15 y16
      unfold sumplaw09_EffectTouches.j1
      repeat' first
      | (with_reducible exact ih0 _ _ _ _ _ _ _ _)
      | (with_reducible exact ih1 _ _ _ _ _ _ _ _ _ _ _ _ _ _ _ _ _)
      | (with_reducible exact effect_Last.mono _ _ _)
      | (with_reducible exact effect_Pages.mono _ _)
      | (with_reducible exact sumplaw09_Few.mono _ _)
      | (with_reducible exact sumplaw09_awake.mono _)
      | (with_reducible exact LeO.refl _)
      | (with_reducible exact LeO.none _)
      | (with_reducible refine LeO.ite ?_ ?_)
      | (with_reducible refine LeO.bind ?_ (fun _ => ?_))
      | exact ih0 _ _ _ _ _ _ _ _
      | exact ih1 _ _ _ _ _ _ _ _ _ _ _ _ _ _ _ _ _
      | exact effect_Last.mono _ _ _
      | exact effect_Pages.mono _ _
      | exact sumplaw09_Few.mono _ _
      | exact sumplaw09_awake.mono _
      | exact LeO.none _
      | refine LeO.ite ?_ ?_
      | refine LeO.bind ?_ (fun _ => ?_)
theorem sumplaw09_EffectTouches.mono : ∀ a0 a1 k, LeO (sumplaw09_EffectTouches.f k a0 a1) (sumplaw09_EffectTouches.f (k + 1) a0 a1) := by
  intro a0 a1 k
  obtain ⟨ih0, ih1⟩ := sumplaw09_EffectTouches.mono_l k
  unfold sumplaw09_EffectTouches.f
  repeat' first
      | (with_reducible exact ih0 _ _ _ _ _ _ _ _)
      | (with_reducible exact ih1 _ _ _ _ _ _ _ _ _ _ _ _ _ _ _ _ _)
      | (with_reducible exact effect_Last.mono _ _ _)
      | (with_reducible exact effect_Pages.mono _ _)
      | (with_reducible exact sumplaw09_Few.mono _ _)
      | (with_reducible exact sumplaw09_awake.mono _)
      | (with_reducible exact LeO.refl _)
      | (with_reducible exact LeO.none _)
      | (with_reducible refine LeO.ite ?_ ?_)
      | (with_reducible refine LeO.bind ?_ (fun _ => ?_))
      | exact ih0 _ _ _ _ _ _ _ _
      | exact ih1 _ _ _ _ _ _ _ _ _ _ _ _ _ _ _ _ _
      | exact effect_Last.mono _ _ _
      | exact effect_Pages.mono _ _
      | exact sumplaw09_Few.mono _ _
      | exact sumplaw09_awake.mono _
      | exact LeO.none _
      | refine LeO.ite ?_ ?_
      | refine LeO.bind ?_ (fun _ => ?_)
def sumplaw09_EffectTouches.T13 : Bool × List (List Nat × List Nat) := (true, [([], []), ([], []), ([0, 1], [0, 1]), ([], []), ([3], [3]), ([], []), ([4, 5], [4, 5]), ([2, 6], [2, 6])])
def sumplaw09_EffectTouches.B13 : List Nat := [0, 0, 3, 0, 8, 0, 56, 127]
theorem sumplaw09_EffectTouches.tab13 : rtab .any (opsOf Try.f4 13) = sumplaw09_EffectTouches.T13 := by kernel_rfl
theorem sumplaw09_EffectTouches.bits13 : waitsOk sumplaw09_EffectTouches.T13.2 sumplaw09_EffectTouches.B13 = true := by kernel_rfl
set_option maxHeartbeats 8000000 in
set_option maxRecDepth 100000 in
theorem sumplaw09_EffectTouches.calls (k : Nat) (A0 : Option Addr) (c0 : Nat) (l0 : List (S24)) (a1 : Int) (r : Bool) (w : World) (hr0 : Kd.C k24 w A0 l0.length l0) (hc0 : l0.length ≤ c0) (h : sumplaw09_EffectTouches.f k l0 a1 = some r) (ht : r = true) :
    Calls Try.prog 4 #[.slice A0 l0.length c0, .int .i64 a1] w fun e w' => e = .returned (.bool r) ∧ Below w.heap.size w w' := by
  have hu24 := Try.underlying24
  have HR0 := Aside0.mk hr0
  have HC0 := Aside0.mk hc0
  clear hr0 hc0
  have HB := Aside0.mk (Below.refl w.heap.size w)
  have HT := Aside0.mk ht
  clear ht
  have H : ((sumplaw09_awake.f k).bind fun t137 => (if t137 = true then ((sumplaw09_Few.f k l0).bind fun t138 => (if t138 = true then (sumplaw09_EffectTouches.l0 k l0 a1 0 false 0 l0 (l0.length : Int) 0) else (some true))) else (some false))) = some r := h
  clear h
  replace H := Option.bind_eq_some_iff.mp H
  obtain ⟨t137, A30, H⟩ := H
  replace H : (if t137 = true then ((sumplaw09_Few.f k l0).bind fun t138 => (if t138 = true then (sumplaw09_EffectTouches.l0 k l0 a1 0 false 0 l0 (l0.length : Int) 0) else (some true))) else (some false)) = some r := H
  have A3 := Aside0.mk A30
  clear A30
  by_cases c4 : t137 = true
  · subst c4
    have H1 : ((sumplaw09_Few.f k l0).bind fun t138 => (if t138 = true then (sumplaw09_EffectTouches.l0 k l0 a1 0 false 0 l0 (l0.length : Int) 0) else (some true))) = some r := by rw [if_pos rfl] at H; exact H
    clear H
    have H := H1
    clear H1
    replace H := Option.bind_eq_some_iff.mp H
    obtain ⟨t138, A50, H⟩ := H
    replace H : (if t138 = true then (sumplaw09_EffectTouches.l0 k l0 a1 0 false 0 l0 (l0.length : Int) 0) else (some true)) = some r := H
    have A5 := Aside0.mk A50
    clear A50
    by_cases c6 : t138 = true
    · subst c6
      have H1 : (sumplaw09_EffectTouches.l0 k l0 a1 0 false 0 l0 (l0.length : Int) 0) = some r := by rw [if_pos rfl] at H; exact H
      clear H
      have H := H1
      clear H1
      have H' := Aside0.mk H
      clear H
      go_enter Try.func4, Try.ntmps4
      go_wp2_with (first | ((with_reducible refine gate_callee (f := 12) rfl ?_); refine goesL_ (some 12) rfl rfl Try.func12 (by kernel_rfl) rfl #[] rfl (by (try simp only [List.map_toArray, List.map_cons, List.map_nil]); first | done | rfl | (simp only [List.length_drop, List.length_take]; rfl)) ?_; (with_reducible refine (sumplaw09_awake.calls k  true _ A3.out).mono ?_); rintro e w7 ⟨rfl, hb⟩; refine ⟨_, rfl, ?_⟩; have n0_ := Aside0.mk (below_step (by repeat (first | (with_reducible first | exact HB.out | apply below_alloc | apply pw_below_drewN | apply below_drew1) | exact HB.out)) hb); clear HB; have HB := n0_; clear n0_; (try clear hb); (try clear hb2); (try clear hk); (try clear hi)) | ((with_reducible refine gate_callee (f := 13) rfl ?_); refine goesL_ (some 15) rfl rfl Try.func13 (by kernel_rfl) rfl #[.slice A0 l0.length c0] rfl (by (try simp only [List.map_toArray, List.map_cons, List.map_nil]); first | done | rfl | (simp only [List.length_drop, List.length_take]; rfl)) ?_; (with_reducible refine (sumplaw09_Few.calls k _ _ l0 true _ ?side1 ?side2 A5.out).mono ?_); (case side1 => repeat (first | exact (Kd.C_below HR0.out HB.out) | (with_reducible refine Kd.C_alloc ?_ _) | (with_reducible refine Kd.C_drewN ?_ _) | (with_reducible refine Kd.C_drew ?_))); (case side2 => exact HC0.out); rintro e w8 ⟨rfl, hb⟩; refine ⟨_, rfl, ?_⟩; have n0_ := Aside0.mk (below_step (by repeat (first | (with_reducible first | exact HB.out | apply below_alloc | apply pw_below_drewN | apply below_drew1) | exact HB.out)) hb); clear HB; have HB := n0_; clear n0_; (try clear hb); (try clear hb2); (try clear hk); (try clear hi)))
      go_loopg [5, 6, 7, 19] k (fun kq v5 v6 v7 v19 w' => ∃ (x5_1 : Int) (x6_1 : Bool) (x7_1 : Int) (x19_1 : Int), v5 = .int .i64 x5_1 ∧ v6 = .bool x6_1 ∧ v7 = .int .i64 x7_1 ∧ v19 = .int .i64 x19_1 ∧ Aside0 (sumplaw09_EffectTouches.l0 kq l0 a1 x5_1 x6_1 x7_1 l0 (l0.length : Int) x19_1 = some r) ∧ Aside0 (kq ≤ k) ∧ Aside0 (Below w.heap.size w w'))
      case atStart => exact ⟨(0), (false), (0), (0), (by first | rfl | (simp; done) | (simp [*]; done)), (by first | rfl | (simp; done) | (simp [*]; done)), (by first | rfl | (simp; done) | (simp [*]; done)), (by first | rfl | (simp; done) | (simp [*]; done)), H', ⟨Nat.le_refl _⟩, ⟨by repeat (first | (with_reducible first | exact HB.out | apply below_alloc | apply pw_below_drewN | apply below_drew1) | exact HB.out)⟩⟩
      case round =>
        clear H'
        try clear c1
        try clear p2
        try clear c4
        try clear c6
        obtain ⟨x5_1, x6_1, x7_1, x19_1, rfl, rfl, rfl, rfl, HA, HK1, HB⟩ := hrel
        cases gk with
        | zero => exact absurd HA.out (by simp [sumplaw09_EffectTouches.l0])
        | succ k1 =>
          have H := HA.out
          clear HA
          simp only [sumplaw09_EffectTouches.l0] at H
          by_cases c9 : x19_1 < (l0.length : Int)
          · rw [if_pos c9] at H
            have c9b0 : decide (x19_1 < (l0.length : Int)) = true := decide_eq_true c9
            clear c9
            by_cases c10 : 0 ≤ x19_1
            · rw [if_pos c10] at H
              have c10b0 : decide (0 ≤ x19_1) = true := decide_eq_true c10
              clear c10
              by_cases c11 : x19_1 < (l0.length : Int)
              · rw [if_pos c11] at H
                have c11b0 : decide (x19_1 < (l0.length : Int)) = true := decide_eq_true c11
                clear c11
                have HC12 := Aside0.mk H
                clear H
                have p142 : 0 ≤ (x19_1 : Int) := of_decide_eq_true (by first | (with_reducible assumption) | assumption)
                have q142 : x19_1 < (l0.length : Int) := of_decide_eq_true (by first | (with_reducible assumption) | assumption)
                obtain ⟨ad142, A142_8, c142_8, e142, hx142_0, hx142_1, hx142_2, hx142_3, hx142_4, hx142_5, hx142_6, hx142_7, hx142_8, hl142_8, hi142_8⟩ := at_T24 HR0.out x19_1 p142 q142
                cases e142
                replace hx142_0 := (HB.out.cell (World.block_lt_of_cell? w _ hx142_0)).trans hx142_0
                replace hx142_1 := (HB.out.cell (World.block_lt_of_cell? w _ hx142_1)).trans hx142_1
                replace hx142_2 := (HB.out.cell (World.block_lt_of_cell? w _ hx142_2)).trans hx142_2
                replace hx142_3 := (HB.out.cell (World.block_lt_of_cell? w _ hx142_3)).trans hx142_3
                replace hx142_4 := (HB.out.cell (World.block_lt_of_cell? w _ hx142_4)).trans hx142_4
                replace hx142_5 := (HB.out.cell (World.block_lt_of_cell? w _ hx142_5)).trans hx142_5
                replace hx142_6 := (HB.out.cell (World.block_lt_of_cell? w _ hx142_6)).trans hx142_6
                replace hx142_7 := (HB.out.cell (World.block_lt_of_cell? w _ hx142_7)).trans hx142_7
                replace hx142_8 := (HB.out.cell (World.block_lt_of_cell? w _ hx142_8)).trans hx142_8
                have HR142_8 := Aside0.mk hi142_8
                have HC142_8 := Aside0.mk hl142_8
                clear hi142_8 hl142_8
                replace p142 := eq_true p142
                replace q142 := eq_true q142
                go_upto_if 27 with (first | ((with_reducible refine gate_dst (N := 9) rfl ?_); refine box_event ?hg (N := 9) ?hd (cs := #[.int .i64 0, .int .i64 0, .int .i64 0, .int .i64 0, .int .i64 0, .int .i64 0, .string (⟨#[]⟩ : ByteArray), .string (⟨#[]⟩ : ByteArray), .slice none 0 0]) (t := 24) ?hr ?_; (case hd => rfl); (case hg => rfl); (case hr => first | (go_simp; done) | (go_simp; rfl)); intro gb143 hg w13 hbox hb; have n0_ := Aside0.mk (below_step (by repeat (first | (with_reducible first | exact HB.out | apply below_alloc | apply pw_below_drewN | apply below_drew1) | exact HB.out)) hb); have n1_ := Aside0.mk (hbox); have n2_ := Aside0.mk ((by rw [hg]; exact (below_size (by repeat (first | (with_reducible first | exact HB.out | apply below_alloc | apply pw_below_drewN | apply below_drew1) | exact HB.out))) : w.heap.size ≤ gb143)); have n3_ := Aside0.mk ((by rw [hg]; exact (below_size (by repeat (first | (with_reducible first | exact HB.out | apply below_alloc | apply pw_below_drewN | apply below_drew1) | exact HB.out))) : w.heap.size ≤ gb143)); clear HB; have HB := n0_; have BK143 := n1_; have GW143 := n2_; have GE143 := n3_; clear n0_ n1_ n2_ n3_; clear hb hbox hg; have hcz14_0 : w13.cell? ⟨gb143, 0, none⟩ = some (.int .i64 0) := (blk_cell BK143.out 0).trans rfl; have hcz14_1 : w13.cell? ⟨gb143, 1, none⟩ = some (.int .i64 0) := (blk_cell BK143.out 1).trans rfl; have hcz14_2 : w13.cell? ⟨gb143, 2, none⟩ = some (.int .i64 0) := (blk_cell BK143.out 2).trans rfl; have hcz14_3 : w13.cell? ⟨gb143, 3, none⟩ = some (.int .i64 0) := (blk_cell BK143.out 3).trans rfl; have hcz14_4 : w13.cell? ⟨gb143, 4, none⟩ = some (.int .i64 0) := (blk_cell BK143.out 4).trans rfl; have hcz14_5 : w13.cell? ⟨gb143, 5, none⟩ = some (.int .i64 0) := (blk_cell BK143.out 5).trans rfl; have hcz14_6 : w13.cell? ⟨gb143, 6, none⟩ = some (.string (⟨#[]⟩ : ByteArray)) := (blk_cell BK143.out 6).trans rfl; have hcz14_7 : w13.cell? ⟨gb143, 7, none⟩ = some (.string (⟨#[]⟩ : ByteArray)) := (blk_cell BK143.out 7).trans rfl; have hcz14_8 : w13.cell? ⟨gb143, 8, none⟩ = some (.slice none 0 0) := (blk_cell BK143.out 8).trans rfl; have hfz14_0 := blk_frozen BK143.out 0; have hfz14_1 := blk_frozen BK143.out 1; have hfz14_2 := blk_frozen BK143.out 2; have hfz14_3 := blk_frozen BK143.out 3; have hfz14_4 := blk_frozen BK143.out 4; have hfz14_5 := blk_frozen BK143.out 5; have hfz14_6 := blk_frozen BK143.out 6; have hfz14_7 := blk_frozen BK143.out 7; have hfz14_8 := blk_frozen BK143.out 8))
                (try simp only [Act.put, List.setIfInBounds_toArray, List.set_cons_zero, List.set_cons_succ])
                go_cut [5, 6] (fun v5 v6 wc => ∃ (kq : Nat) (x5_11 : Int) (x6_11 : Bool), v5 = .int .i64 x5_11 ∧ v6 = .bool x6_11 ∧ Aside0 (sumplaw09_EffectTouches.j1 kq l0 a1 x5_11 x6_11 x7_1 l0 (l0.length : Int) x19_1 ((rd_T24 l0 x19_1).f0) ((rd_T24 l0 x19_1).f1) ((rd_T24 l0 x19_1).f2) ((rd_T24 l0 x19_1).f3) ((rd_T24 l0 x19_1).f4) ((rd_T24 l0 x19_1).f5) ((rd_T24 l0 x19_1).f6) ((rd_T24 l0 x19_1).f7) ((rd_T24 l0 x19_1).f8) = some r) ∧ Aside0 (kq ≤ k1) ∧ Aside0 (wc.heap[gb143]? = some (.cells #[.int .i64 ((rd_T24 l0 x19_1).f0), .int .i64 ((rd_T24 l0 x19_1).f1), .int .i64 ((rd_T24 l0 x19_1).f2), .int .i64 ((rd_T24 l0 x19_1).f3), .int .i64 ((rd_T24 l0 x19_1).f4), .int .i64 ((rd_T24 l0 x19_1).f5), .string ((rd_T24 l0 x19_1).f6), .string ((rd_T24 l0 x19_1).f7), (.slice A142_8 ((rd_T24 l0 x19_1).f8).length c142_8)] 24 (0, 0))) ∧ Aside0 (Below w.heap.size w wc))
                case first =>
                  have H := HC12.out
                  clear HC12
                  by_cases c15 : ((rd_T24 l0 x19_1).f1) = a1
                  · rw [if_pos c15] at H
                    have c15b0 : (((rd_T24 l0 x19_1).f1) == a1) = true := beq_iff_eq.mpr c15
                    have c15b1 : (((rd_T24 l0 x19_1).f1) != a1) = false := bne_eq_false_iff_eq.mpr c15
                    clear c15
                    (first | rw [c15b0] | (simp only [i64_w, i32_w]; rw [c15b0]) | skip)
                    have H' := Aside0.mk H
                    clear H
                    go_wp2
                    go_meet
                    case rel => exact ⟨_, (x19_1), (true), (by first | rfl | (simp; done) | (simp [*]; done)), (by first | rfl | (simp; done) | (simp [*]; done)), H', ⟨by have := HK1.out; first | omega | exact Nat.le_refl _⟩, ⟨by (with_reducible repeat (first | refine blk_drewN ?_ _ | refine blk_drew ?_ | refine blk_alloc ?_ _)); refine blk_put (cs := #[.int .i64 ((rd_T24 l0 x19_1).f0), .int .i64 ((rd_T24 l0 x19_1).f1), .int .i64 ((rd_T24 l0 x19_1).f2), .int .i64 ((rd_T24 l0 x19_1).f3), .int .i64 ((rd_T24 l0 x19_1).f4), .int .i64 ((rd_T24 l0 x19_1).f5), .string ((rd_T24 l0 x19_1).f6), .string ((rd_T24 l0 x19_1).f7), .slice none 0 0]) ?_ 8 _ rfl; (with_reducible repeat (first | refine blk_drewN ?_ _ | refine blk_drew ?_ | refine blk_alloc ?_ _)); refine blk_put (cs := #[.int .i64 ((rd_T24 l0 x19_1).f0), .int .i64 ((rd_T24 l0 x19_1).f1), .int .i64 ((rd_T24 l0 x19_1).f2), .int .i64 ((rd_T24 l0 x19_1).f3), .int .i64 ((rd_T24 l0 x19_1).f4), .int .i64 ((rd_T24 l0 x19_1).f5), .string ((rd_T24 l0 x19_1).f6), .string (⟨#[]⟩ : ByteArray), .slice none 0 0]) ?_ 7 _ rfl; (with_reducible repeat (first | refine blk_drewN ?_ _ | refine blk_drew ?_ | refine blk_alloc ?_ _)); refine blk_put (cs := #[.int .i64 ((rd_T24 l0 x19_1).f0), .int .i64 ((rd_T24 l0 x19_1).f1), .int .i64 ((rd_T24 l0 x19_1).f2), .int .i64 ((rd_T24 l0 x19_1).f3), .int .i64 ((rd_T24 l0 x19_1).f4), .int .i64 ((rd_T24 l0 x19_1).f5), .string (⟨#[]⟩ : ByteArray), .string (⟨#[]⟩ : ByteArray), .slice none 0 0]) ?_ 6 _ rfl; (with_reducible repeat (first | refine blk_drewN ?_ _ | refine blk_drew ?_ | refine blk_alloc ?_ _)); refine blk_put (cs := #[.int .i64 ((rd_T24 l0 x19_1).f0), .int .i64 ((rd_T24 l0 x19_1).f1), .int .i64 ((rd_T24 l0 x19_1).f2), .int .i64 ((rd_T24 l0 x19_1).f3), .int .i64 ((rd_T24 l0 x19_1).f4), .int .i64 0, .string (⟨#[]⟩ : ByteArray), .string (⟨#[]⟩ : ByteArray), .slice none 0 0]) ?_ 5 _ rfl; (with_reducible repeat (first | refine blk_drewN ?_ _ | refine blk_drew ?_ | refine blk_alloc ?_ _)); refine blk_put (cs := #[.int .i64 ((rd_T24 l0 x19_1).f0), .int .i64 ((rd_T24 l0 x19_1).f1), .int .i64 ((rd_T24 l0 x19_1).f2), .int .i64 ((rd_T24 l0 x19_1).f3), .int .i64 0, .int .i64 0, .string (⟨#[]⟩ : ByteArray), .string (⟨#[]⟩ : ByteArray), .slice none 0 0]) ?_ 4 _ rfl; (with_reducible repeat (first | refine blk_drewN ?_ _ | refine blk_drew ?_ | refine blk_alloc ?_ _)); refine blk_put (cs := #[.int .i64 ((rd_T24 l0 x19_1).f0), .int .i64 ((rd_T24 l0 x19_1).f1), .int .i64 ((rd_T24 l0 x19_1).f2), .int .i64 0, .int .i64 0, .int .i64 0, .string (⟨#[]⟩ : ByteArray), .string (⟨#[]⟩ : ByteArray), .slice none 0 0]) ?_ 3 _ rfl; (with_reducible repeat (first | refine blk_drewN ?_ _ | refine blk_drew ?_ | refine blk_alloc ?_ _)); refine blk_put (cs := #[.int .i64 ((rd_T24 l0 x19_1).f0), .int .i64 ((rd_T24 l0 x19_1).f1), .int .i64 0, .int .i64 0, .int .i64 0, .int .i64 0, .string (⟨#[]⟩ : ByteArray), .string (⟨#[]⟩ : ByteArray), .slice none 0 0]) ?_ 2 _ rfl; (with_reducible repeat (first | refine blk_drewN ?_ _ | refine blk_drew ?_ | refine blk_alloc ?_ _)); refine blk_put (cs := #[.int .i64 ((rd_T24 l0 x19_1).f0), .int .i64 0, .int .i64 0, .int .i64 0, .int .i64 0, .int .i64 0, .string (⟨#[]⟩ : ByteArray), .string (⟨#[]⟩ : ByteArray), .slice none 0 0]) ?_ 1 _ rfl; (with_reducible repeat (first | refine blk_drewN ?_ _ | refine blk_drew ?_ | refine blk_alloc ?_ _)); refine blk_put (cs := #[.int .i64 0, .int .i64 0, .int .i64 0, .int .i64 0, .int .i64 0, .int .i64 0, .string (⟨#[]⟩ : ByteArray), .string (⟨#[]⟩ : ByteArray), .slice none 0 0]) ?_ 0 _ rfl; (with_reducible repeat (first | refine blk_drewN ?_ _ | refine blk_drew ?_ | refine blk_alloc ?_ _)); exact BK143.out⟩, ⟨by repeat (first | (with_reducible first | exact HB.out | apply below_alloc | apply pw_below_drewN | apply below_drew1 | refine below_set ?_ GE143.out) | exact HB.out)⟩⟩
                  · rw [if_neg c15] at H
                    have c15b0 : (((rd_T24 l0 x19_1).f1) == a1) = false := beq_eq_false_iff_ne.mpr c15
                    have c15b1 : (((rd_T24 l0 x19_1).f1) != a1) = true := bne_iff_ne.mpr c15
                    (first | rw [c15b0] | (simp only [i64_w, i32_w]; rw [c15b0]) | skip)
                    have H' := Aside0.mk H
                    clear H
                    go_wp2
                    go_meet
                    case rel => exact ⟨_, (x5_1), (x6_1), (by first | rfl | (simp; done) | (simp [*]; done)), (by first | rfl | (simp; done) | (simp [*]; done)), H', ⟨by have := HK1.out; first | omega | exact Nat.le_refl _⟩, ⟨by (with_reducible repeat (first | refine blk_drewN ?_ _ | refine blk_drew ?_ | refine blk_alloc ?_ _)); refine blk_put (cs := #[.int .i64 ((rd_T24 l0 x19_1).f0), .int .i64 ((rd_T24 l0 x19_1).f1), .int .i64 ((rd_T24 l0 x19_1).f2), .int .i64 ((rd_T24 l0 x19_1).f3), .int .i64 ((rd_T24 l0 x19_1).f4), .int .i64 ((rd_T24 l0 x19_1).f5), .string ((rd_T24 l0 x19_1).f6), .string ((rd_T24 l0 x19_1).f7), .slice none 0 0]) ?_ 8 _ rfl; (with_reducible repeat (first | refine blk_drewN ?_ _ | refine blk_drew ?_ | refine blk_alloc ?_ _)); refine blk_put (cs := #[.int .i64 ((rd_T24 l0 x19_1).f0), .int .i64 ((rd_T24 l0 x19_1).f1), .int .i64 ((rd_T24 l0 x19_1).f2), .int .i64 ((rd_T24 l0 x19_1).f3), .int .i64 ((rd_T24 l0 x19_1).f4), .int .i64 ((rd_T24 l0 x19_1).f5), .string ((rd_T24 l0 x19_1).f6), .string (⟨#[]⟩ : ByteArray), .slice none 0 0]) ?_ 7 _ rfl; (with_reducible repeat (first | refine blk_drewN ?_ _ | refine blk_drew ?_ | refine blk_alloc ?_ _)); refine blk_put (cs := #[.int .i64 ((rd_T24 l0 x19_1).f0), .int .i64 ((rd_T24 l0 x19_1).f1), .int .i64 ((rd_T24 l0 x19_1).f2), .int .i64 ((rd_T24 l0 x19_1).f3), .int .i64 ((rd_T24 l0 x19_1).f4), .int .i64 ((rd_T24 l0 x19_1).f5), .string (⟨#[]⟩ : ByteArray), .string (⟨#[]⟩ : ByteArray), .slice none 0 0]) ?_ 6 _ rfl; (with_reducible repeat (first | refine blk_drewN ?_ _ | refine blk_drew ?_ | refine blk_alloc ?_ _)); refine blk_put (cs := #[.int .i64 ((rd_T24 l0 x19_1).f0), .int .i64 ((rd_T24 l0 x19_1).f1), .int .i64 ((rd_T24 l0 x19_1).f2), .int .i64 ((rd_T24 l0 x19_1).f3), .int .i64 ((rd_T24 l0 x19_1).f4), .int .i64 0, .string (⟨#[]⟩ : ByteArray), .string (⟨#[]⟩ : ByteArray), .slice none 0 0]) ?_ 5 _ rfl; (with_reducible repeat (first | refine blk_drewN ?_ _ | refine blk_drew ?_ | refine blk_alloc ?_ _)); refine blk_put (cs := #[.int .i64 ((rd_T24 l0 x19_1).f0), .int .i64 ((rd_T24 l0 x19_1).f1), .int .i64 ((rd_T24 l0 x19_1).f2), .int .i64 ((rd_T24 l0 x19_1).f3), .int .i64 0, .int .i64 0, .string (⟨#[]⟩ : ByteArray), .string (⟨#[]⟩ : ByteArray), .slice none 0 0]) ?_ 4 _ rfl; (with_reducible repeat (first | refine blk_drewN ?_ _ | refine blk_drew ?_ | refine blk_alloc ?_ _)); refine blk_put (cs := #[.int .i64 ((rd_T24 l0 x19_1).f0), .int .i64 ((rd_T24 l0 x19_1).f1), .int .i64 ((rd_T24 l0 x19_1).f2), .int .i64 0, .int .i64 0, .int .i64 0, .string (⟨#[]⟩ : ByteArray), .string (⟨#[]⟩ : ByteArray), .slice none 0 0]) ?_ 3 _ rfl; (with_reducible repeat (first | refine blk_drewN ?_ _ | refine blk_drew ?_ | refine blk_alloc ?_ _)); refine blk_put (cs := #[.int .i64 ((rd_T24 l0 x19_1).f0), .int .i64 ((rd_T24 l0 x19_1).f1), .int .i64 0, .int .i64 0, .int .i64 0, .int .i64 0, .string (⟨#[]⟩ : ByteArray), .string (⟨#[]⟩ : ByteArray), .slice none 0 0]) ?_ 2 _ rfl; (with_reducible repeat (first | refine blk_drewN ?_ _ | refine blk_drew ?_ | refine blk_alloc ?_ _)); refine blk_put (cs := #[.int .i64 ((rd_T24 l0 x19_1).f0), .int .i64 0, .int .i64 0, .int .i64 0, .int .i64 0, .int .i64 0, .string (⟨#[]⟩ : ByteArray), .string (⟨#[]⟩ : ByteArray), .slice none 0 0]) ?_ 1 _ rfl; (with_reducible repeat (first | refine blk_drewN ?_ _ | refine blk_drew ?_ | refine blk_alloc ?_ _)); refine blk_put (cs := #[.int .i64 0, .int .i64 0, .int .i64 0, .int .i64 0, .int .i64 0, .int .i64 0, .string (⟨#[]⟩ : ByteArray), .string (⟨#[]⟩ : ByteArray), .slice none 0 0]) ?_ 0 _ rfl; (with_reducible repeat (first | refine blk_drewN ?_ _ | refine blk_drew ?_ | refine blk_alloc ?_ _)); exact BK143.out⟩, ⟨by repeat (first | (with_reducible first | exact HB.out | apply below_alloc | apply pw_below_drewN | apply below_drew1 | refine below_set ?_ GE143.out) | exact HB.out)⟩⟩
                case rest =>
                  clear HC12
                  try clear c1
                  try clear p1
                  try clear q1
                  try clear hx1
                  try clear p2
                  try clear c4
                  try clear c6
                  try clear c9
                  try clear c9b0
                  try clear c10
                  try clear c10b0
                  try clear c11
                  try clear c11b0
                  try clear c12
                  try clear c13
                  try clear c14
                  try clear p14
                  try clear q14
                  try clear hx14
                  try clear c15
                  try clear c15b0
                  try clear c15b1
                  try clear hcz14_0
                  try clear hcz14_1
                  try clear hcz14_2
                  try clear hcz14_3
                  try clear hcz14_4
                  try clear hcz14_5
                  try clear hcz14_6
                  try clear hcz14_7
                  try clear hcz14_8
                  try clear hfz14_0
                  try clear hfz14_1
                  try clear hfz14_2
                  try clear hfz14_3
                  try clear hfz14_4
                  try clear hfz14_5
                  try clear hfz14_6
                  try clear hfz14_7
                  try clear hfz14_8
                  try clear hx142_0
                  try clear hx142_1
                  try clear hx142_2
                  try clear hx142_3
                  try clear hx142_4
                  try clear hx142_5
                  try clear hx142_6
                  try clear hx142_7
                  try clear hx142_8
                  try clear p142
                  try clear p2
                  try clear q142
                  obtain ⟨kq, x5_11, x6_11, rfl, rfl, HA, HJ11, BK143, HB⟩ := hcut
                  cases kq with
                  | zero => exact absurd HA.out (by simp [sumplaw09_EffectTouches.j1])
                  | succ kj11 =>
                    have H := HA.out
                    clear HA
                    simp only [sumplaw09_EffectTouches.j1] at H
                    by_cases c16 : ((rd_T24 l0 x19_1).f0) = 7
                    · rw [if_pos c16] at H
                      have c16b0 : (((rd_T24 l0 x19_1).f0) == 7) = true := beq_iff_eq.mpr c16
                      have c16b1 : (((rd_T24 l0 x19_1).f0) != 7) = false := bne_eq_false_iff_eq.mpr c16
                      clear c16
                      replace H := Option.bind_eq_some_iff.mp H
                      obtain ⟨t144, A170, H⟩ := H
                      replace H : (if (t144 != (((rd_T24 l0 x19_1).f1) == a1)) = true then (some false) else (sumplaw09_EffectTouches.l0 kj11 l0 a1 x5_11 x6_11 (wrap64 (x7_1 + 1)) l0 (l0.length : Int) (wrap64 (x19_1 + 1)))) = some r := H
                      have A17 := Aside0.mk A170
                      clear A170
                      by_cases c18 : (t144 != (((rd_T24 l0 x19_1).f1) == a1)) = true
                      · rw [if_pos c18] at H
                        have c18b0 : (t144 != (((rd_T24 l0 x19_1).f1) == a1)) = true := c18
                        (try (have c18b1 : decide (t144 = (((rd_T24 l0 x19_1).f1) == a1)) = false := by simpa using c18))
                        (try (have c18b2 : (t144 == (((rd_T24 l0 x19_1).f1) == a1)) = false := by simpa using c18))
                        (try (have c18b3 : ¬ (t144 = (((rd_T24 l0 x19_1).f1) == a1)) := by simpa using c18))
                        clear c18
                        exact absurd ((Option.some.inj H).trans HT.out) (by simp)
                      · rw [if_neg c18] at H
                        have c18b0 : (t144 != (((rd_T24 l0 x19_1).f1) == a1)) = false := by simpa using c18
                        (try (have c18b1 : decide (t144 = (((rd_T24 l0 x19_1).f1) == a1)) = true := by simpa using c18))
                        (try (have c18b2 : (t144 == (((rd_T24 l0 x19_1).f1) == a1)) = true := by simpa using c18))
                        clear c18
                        have H' := Aside0.mk H
                        clear H
                        have hcz19_0 : wc.cell? ⟨gb143, 0, none⟩ = some (.int .i64 ((rd_T24 l0 x19_1).f0)) := (blk_cell BK143.out 0).trans rfl
                        have hcz19_1 : wc.cell? ⟨gb143, 1, none⟩ = some (.int .i64 ((rd_T24 l0 x19_1).f1)) := (blk_cell BK143.out 1).trans rfl
                        have hcz19_2 : wc.cell? ⟨gb143, 2, none⟩ = some (.int .i64 ((rd_T24 l0 x19_1).f2)) := (blk_cell BK143.out 2).trans rfl
                        have hcz19_3 : wc.cell? ⟨gb143, 3, none⟩ = some (.int .i64 ((rd_T24 l0 x19_1).f3)) := (blk_cell BK143.out 3).trans rfl
                        have hcz19_4 : wc.cell? ⟨gb143, 4, none⟩ = some (.int .i64 ((rd_T24 l0 x19_1).f4)) := (blk_cell BK143.out 4).trans rfl
                        have hcz19_5 : wc.cell? ⟨gb143, 5, none⟩ = some (.int .i64 ((rd_T24 l0 x19_1).f5)) := (blk_cell BK143.out 5).trans rfl
                        have hcz19_6 : wc.cell? ⟨gb143, 6, none⟩ = some (.string ((rd_T24 l0 x19_1).f6)) := (blk_cell BK143.out 6).trans rfl
                        have hcz19_7 : wc.cell? ⟨gb143, 7, none⟩ = some (.string ((rd_T24 l0 x19_1).f7)) := (blk_cell BK143.out 7).trans rfl
                        have hcz19_8 : wc.cell? ⟨gb143, 8, none⟩ = some (.slice A142_8 ((rd_T24 l0 x19_1).f8).length c142_8) := (blk_cell BK143.out 8).trans rfl
                        have hfz19_0 := blk_frozen BK143.out 0
                        have hfz19_1 := blk_frozen BK143.out 1
                        have hfz19_2 := blk_frozen BK143.out 2
                        have hfz19_3 := blk_frozen BK143.out 3
                        have hfz19_4 := blk_frozen BK143.out 4
                        have hfz19_5 := blk_frozen BK143.out 5
                        have hfz19_6 := blk_frozen BK143.out 6
                        have hfz19_7 := blk_frozen BK143.out 7
                        have hfz19_8 := blk_frozen BK143.out 8
                        try go_wp2
                        have n0_ := Aside0.mk (blk_drew BK143.out)
                        have n1_ := Aside0.mk (below_drew1 HB.out)
                        clear BK143
                        clear HB
                        have BK143 := n0_
                        have HB := n1_
                        clear n0_ n1_
                        refine start_ (n := 8) (S := fun w' => w'.cell? ⟨gb143, 0, none⟩ = some (.int .i64 ((rd_T24 l0 x19_1).f0)) ∧ w'.cell? ⟨gb143, 1, none⟩ = some (.int .i64 ((rd_T24 l0 x19_1).f1)) ∧ w'.cell? ⟨gb143, 2, none⟩ = some (.int .i64 ((rd_T24 l0 x19_1).f2)) ∧ w'.cell? ⟨gb143, 3, none⟩ = some (.int .i64 ((rd_T24 l0 x19_1).f3)) ∧ w'.cell? ⟨gb143, 4, none⟩ = some (.int .i64 ((rd_T24 l0 x19_1).f4)) ∧ w'.cell? ⟨gb143, 5, none⟩ = some (.int .i64 ((rd_T24 l0 x19_1).f5)) ∧ w'.cell? ⟨gb143, 6, none⟩ = some (.string ((rd_T24 l0 x19_1).f6)) ∧ w'.cell? ⟨gb143, 7, none⟩ = some (.string ((rd_T24 l0 x19_1).f7)) ∧ w'.cell? ⟨gb143, 8, none⟩ = some (.slice A142_8 ((rd_T24 l0 x19_1).f8).length c142_8)) (ds := []) #[false, false, false, false, false, false, false, false] (by kernel_rfl) rfl rfl ⟨(blk_cell BK143.out 0).trans rfl, (blk_cell BK143.out 1).trans rfl, (blk_cell BK143.out 2).trans rfl, (blk_cell BK143.out 3).trans rfl, (blk_cell BK143.out 4).trans rfl, (blk_cell BK143.out 5).trans rfl, (blk_cell BK143.out 6).trans rfl, (blk_cell BK143.out 7).trans rfl, (blk_cell BK143.out 8).trans rfl⟩ (fun hHeld => ?_); refine with_tabW sumplaw09_EffectTouches.tab13 sumplaw09_EffectTouches.bits13 (fun HT_ HW_ => ?_)
                        generalize wc.drew = w20 at BK143 HB hHeld ⊢
                        refine pure_ (i := 1) (N := some 35) (v := ?_) (a' := ?_) #[false, true, false, false, false, false, false, false] rfl rfl (any_of HT_.out (by kernel_rfl)) (fun _ _ _ h => h) (Or.inl ⟨by rfl, ?_⟩) ?_ ?_
                        rotate_left
                        · intro w'
                          go_simp
                          with_reducible rfl
                        rotate_left
                        · simp only [Act.put, List.setIfInBounds_toArray, List.set_cons_zero, List.set_cons_succ, i64_w, i32_w]
                          rfl
                        refine pure_ (i := 3) (N := some 37) (v := ?_) (a' := ?_) #[false, true, false, true, false, false, false, false] rfl rfl (any_of HT_.out (by kernel_rfl)) (fun _ _ _ h => h) (Or.inl ⟨by rfl, ?_⟩) ?_ ?_
                        rotate_left
                        · intro w'
                          go_simp
                          with_reducible rfl
                        rotate_left
                        · simp only [Act.put, List.setIfInBounds_toArray, List.set_cons_zero, List.set_cons_succ, i64_w, i32_w]
                          rfl
                        refine pure_ (i := 5) (N := some 39) (v := ?_) (a' := ?_) #[false, true, false, true, false, true, false, false] rfl rfl (any_of HT_.out (by kernel_rfl)) (fun _ _ _ h => h) (Or.inl ⟨by rfl, ?_⟩) ?_ ?_
                        rotate_left
                        · intro w'
                          go_simp
                          with_reducible rfl
                        rotate_left
                        · simp only [Act.put, List.setIfInBounds_toArray, List.set_cons_zero, List.set_cons_succ, i64_w, i32_w]
                          rfl
                        refine take_ (i := 0) (N := some 34) (v := ?_) (a' := ?_) #[true, true, false, true, false, true, false, false] rfl rfl (take_ofW HT_.out HW_.out (by kernel_rfl)) (fun _ _ _ h => h) (Or.inl ⟨by rfl, ?_⟩) hHeld ?_ ?_
                        rotate_left
                        · rintro w' ⟨s0, s1, s2, s3, s4, s5, s6, s7, s8⟩
                          go_simp
                          with_reducible rfl
                        rotate_left
                        · simp only [Act.put, List.setIfInBounds_toArray, List.set_cons_zero, List.set_cons_succ, i64_w, i32_w]
                          rfl
                        refine take_ (i := 4) (N := some 38) (v := ?_) (a' := ?_) #[true, true, false, true, true, true, false, false] rfl rfl (take_ofW HT_.out HW_.out (by kernel_rfl)) (fun _ _ _ h => h) (Or.inl ⟨by rfl, ?_⟩) hHeld ?_ ?_
                        rotate_left
                        · rintro w' ⟨s0, s1, s2, s3, s4, s5, s6, s7, s8⟩
                          go_simp
                          with_reducible rfl
                        rotate_left
                        · simp only [Act.put, List.setIfInBounds_toArray, List.set_cons_zero, List.set_cons_succ, i64_w, i32_w]
                          rfl
                        refine pure_ (i := 6) (N := some 40) (v := ?_) (a' := ?_) #[true, true, false, true, true, true, true, false] rfl rfl (any_of HT_.out (by kernel_rfl)) (fun _ _ _ h => h) (Or.inl ⟨by rfl, ?_⟩) ?_ ?_
                        rotate_left
                        · intro w'
                          go_simp
                          with_reducible rfl
                        rotate_left
                        · simp only [Act.put, List.setIfInBounds_toArray, List.set_cons_zero, List.set_cons_succ, i64_w, i32_w]
                          rfl
                        refine one_ (i := 2) (N := some 36) #[true, true, true, true, true, true, true, false] rfl rfl (one_of HT_.out (by kernel_rfl)) (by decide) (fun K hK => ?_)
                        refine goes_ Try.func20 (by kernel_rfl) rfl #[.agg #[.int .i64 ((rd_T24 l0 x19_1).f0), .int .i64 ((rd_T24 l0 x19_1).f1), .int .i64 ((rd_T24 l0 x19_1).f2), .int .i64 ((rd_T24 l0 x19_1).f3), .int .i64 ((rd_T24 l0 x19_1).f4), .int .i64 ((rd_T24 l0 x19_1).f5), .string ((rd_T24 l0 x19_1).f6), .string ((rd_T24 l0 x19_1).f7), .slice A142_8 ((rd_T24 l0 x19_1).f8).length c142_8], .int .i64 a1] (by rfl) rfl rfl (by (try simp only [List.map_toArray, List.map_cons, List.map_nil]); first | done | rfl | (simp only [List.length_drop, List.length_take]; rfl)) ?_
                        with_reducible refine (effect_Touches.calls ((rd_T24 l0 x19_1).f0) ((rd_T24 l0 x19_1).f1) ((rd_T24 l0 x19_1).f2) ((rd_T24 l0 x19_1).f3) ((rd_T24 l0 x19_1).f4) ((rd_T24 l0 x19_1).f5) ((rd_T24 l0 x19_1).f6) ((rd_T24 l0 x19_1).f7) _ _ ((rd_T24 l0 x19_1).f8) a1 t144 _ ?side1 ?side2 A17.out).mono ?_
                        (case side1 => repeat (first | exact (Kd.C_below HR142_8.out HB.out) | (with_reducible refine Kd.C_alloc ?_ _) | (with_reducible refine Kd.C_drewN ?_ _) | (with_reducible refine Kd.C_drew ?_)))
                        (case side2 => exact HC142_8.out)
                        rintro e w21 ⟨rfl, hb⟩
                        refine ⟨_, rfl, ?_⟩
                        have n0_ := Aside0.mk (blk_below (g := gb143) (o := .cells #[.int .i64 ((rd_T24 l0 x19_1).f0), .int .i64 ((rd_T24 l0 x19_1).f1), .int .i64 ((rd_T24 l0 x19_1).f2), .int .i64 ((rd_T24 l0 x19_1).f3), .int .i64 ((rd_T24 l0 x19_1).f4), .int .i64 ((rd_T24 l0 x19_1).f5), .string ((rd_T24 l0 x19_1).f6), .string ((rd_T24 l0 x19_1).f7), .slice A142_8 ((rd_T24 l0 x19_1).f8).length c142_8] 24 (0, 0)) (by (with_reducible repeat (first | refine blk_drewN ?_ _ | refine blk_drew ?_ | refine blk_alloc ?_ _)); exact BK143.out) hb)
                        have n1_ := Aside0.mk (below_step (by repeat (first | (with_reducible first | exact HB.out | apply below_alloc | apply pw_below_drewN | apply below_drew1 | refine below_set ?_ GE143.out) | exact HB.out)) hb)
                        clear BK143
                        clear HB
                        have BK143 := n0_
                        have HB := n1_
                        clear n0_ n1_
                        (try clear hb)
                        (try clear hb2)
                        (try clear hk)
                        (try clear hi)
                        refine hK.out _ _ ⟨(blk_cell BK143.out 0).trans rfl, (blk_cell BK143.out 1).trans rfl, (blk_cell BK143.out 2).trans rfl, (blk_cell BK143.out 3).trans rfl, (blk_cell BK143.out 4).trans rfl, (blk_cell BK143.out 5).trans rfl, (blk_cell BK143.out 6).trans rfl, (blk_cell BK143.out 7).trans rfl, (blk_cell BK143.out 8).trans rfl⟩ (fun hHeld => ?_)
                        clear hK K
                        refine norm_ (a' := ?_) ?_ ?_
                        rotate_left
                        · show Act.put _ (some 36) _ = _
                          simp only [Act.put, List.setIfInBounds_toArray, List.set_cons_zero, List.set_cons_succ, i64_w, i32_w]
                          rfl
                        refine pure_ (i := 7) (N := some 41) (v := ?_) (a' := ?_) #[true, true, true, true, true, true, true, true] rfl rfl (any_of HT_.out (by kernel_rfl)) (fun _ _ _ h => h) (Or.inl ⟨by rfl, ?_⟩) ?_ ?_
                        rotate_left
                        · intro w'
                          go_simp
                          with_reducible rfl
                        rotate_left
                        · simp only [Act.put, List.setIfInBounds_toArray, List.set_cons_zero, List.set_cons_succ, i64_w, i32_w]
                          rfl
                        refine done_ (done_of HT_.out (by kernel_rfl)) ?_
                        try go_wp2
                        go_roundg kj11
                        case measure => have := HK1.out; have := HJ11.out; omega
                        case rel => exact ⟨(x5_11), (x6_11), (wrap64 (x7_1 + 1)), (wrap64 (x19_1 + 1)), (by first | rfl | (simp; done) | (simp [*]; done)), (by first | rfl | (simp; done) | (simp [*]; done)), (by first | rfl | (simp; done) | (simp [*]; done)), (by first | rfl | (simp; done) | (simp [*]; done)), H', ⟨by have := HK1.out; have := HJ11.out; omega⟩, ⟨by repeat (first | (with_reducible first | exact HB.out | apply below_alloc | apply pw_below_drewN | apply below_drew1 | refine below_set ?_ GE143.out) | exact HB.out)⟩⟩
                    · rw [if_neg c16] at H
                      have c16b0 : (((rd_T24 l0 x19_1).f0) == 7) = false := beq_eq_false_iff_ne.mpr c16
                      have c16b1 : (((rd_T24 l0 x19_1).f0) != 7) = true := bne_iff_ne.mpr c16
                      replace H := Option.bind_eq_some_iff.mp H
                      obtain ⟨t145, A220, H⟩ := H
                      replace H : (if (t145 != (((rd_T24 l0 x19_1).f1) == a1)) = true then (some false) else (sumplaw09_EffectTouches.l0 kj11 l0 a1 x5_11 x6_11 x7_1 l0 (l0.length : Int) (wrap64 (x19_1 + 1)))) = some r := H
                      have A22 := Aside0.mk A220
                      clear A220
                      by_cases c23 : (t145 != (((rd_T24 l0 x19_1).f1) == a1)) = true
                      · rw [if_pos c23] at H
                        have c23b0 : (t145 != (((rd_T24 l0 x19_1).f1) == a1)) = true := c23
                        (try (have c23b1 : decide (t145 = (((rd_T24 l0 x19_1).f1) == a1)) = false := by simpa using c23))
                        (try (have c23b2 : (t145 == (((rd_T24 l0 x19_1).f1) == a1)) = false := by simpa using c23))
                        (try (have c23b3 : ¬ (t145 = (((rd_T24 l0 x19_1).f1) == a1)) := by simpa using c23))
                        clear c23
                        exact absurd ((Option.some.inj H).trans HT.out) (by simp)
                      · rw [if_neg c23] at H
                        have c23b0 : (t145 != (((rd_T24 l0 x19_1).f1) == a1)) = false := by simpa using c23
                        (try (have c23b1 : decide (t145 = (((rd_T24 l0 x19_1).f1) == a1)) = true := by simpa using c23))
                        (try (have c23b2 : (t145 == (((rd_T24 l0 x19_1).f1) == a1)) = true := by simpa using c23))
                        clear c23
                        have H' := Aside0.mk H
                        clear H
                        have hcz24_0 : wc.cell? ⟨gb143, 0, none⟩ = some (.int .i64 ((rd_T24 l0 x19_1).f0)) := (blk_cell BK143.out 0).trans rfl
                        have hcz24_1 : wc.cell? ⟨gb143, 1, none⟩ = some (.int .i64 ((rd_T24 l0 x19_1).f1)) := (blk_cell BK143.out 1).trans rfl
                        have hcz24_2 : wc.cell? ⟨gb143, 2, none⟩ = some (.int .i64 ((rd_T24 l0 x19_1).f2)) := (blk_cell BK143.out 2).trans rfl
                        have hcz24_3 : wc.cell? ⟨gb143, 3, none⟩ = some (.int .i64 ((rd_T24 l0 x19_1).f3)) := (blk_cell BK143.out 3).trans rfl
                        have hcz24_4 : wc.cell? ⟨gb143, 4, none⟩ = some (.int .i64 ((rd_T24 l0 x19_1).f4)) := (blk_cell BK143.out 4).trans rfl
                        have hcz24_5 : wc.cell? ⟨gb143, 5, none⟩ = some (.int .i64 ((rd_T24 l0 x19_1).f5)) := (blk_cell BK143.out 5).trans rfl
                        have hcz24_6 : wc.cell? ⟨gb143, 6, none⟩ = some (.string ((rd_T24 l0 x19_1).f6)) := (blk_cell BK143.out 6).trans rfl
                        have hcz24_7 : wc.cell? ⟨gb143, 7, none⟩ = some (.string ((rd_T24 l0 x19_1).f7)) := (blk_cell BK143.out 7).trans rfl
                        have hcz24_8 : wc.cell? ⟨gb143, 8, none⟩ = some (.slice A142_8 ((rd_T24 l0 x19_1).f8).length c142_8) := (blk_cell BK143.out 8).trans rfl
                        have hfz24_0 := blk_frozen BK143.out 0
                        have hfz24_1 := blk_frozen BK143.out 1
                        have hfz24_2 := blk_frozen BK143.out 2
                        have hfz24_3 := blk_frozen BK143.out 3
                        have hfz24_4 := blk_frozen BK143.out 4
                        have hfz24_5 := blk_frozen BK143.out 5
                        have hfz24_6 := blk_frozen BK143.out 6
                        have hfz24_7 := blk_frozen BK143.out 7
                        have hfz24_8 := blk_frozen BK143.out 8
                        try go_wp2
                        have n0_ := Aside0.mk (blk_drew BK143.out)
                        have n1_ := Aside0.mk (below_drew1 HB.out)
                        clear BK143
                        clear HB
                        have BK143 := n0_
                        have HB := n1_
                        clear n0_ n1_
                        refine start_ (n := 8) (S := fun w' => w'.cell? ⟨gb143, 0, none⟩ = some (.int .i64 ((rd_T24 l0 x19_1).f0)) ∧ w'.cell? ⟨gb143, 1, none⟩ = some (.int .i64 ((rd_T24 l0 x19_1).f1)) ∧ w'.cell? ⟨gb143, 2, none⟩ = some (.int .i64 ((rd_T24 l0 x19_1).f2)) ∧ w'.cell? ⟨gb143, 3, none⟩ = some (.int .i64 ((rd_T24 l0 x19_1).f3)) ∧ w'.cell? ⟨gb143, 4, none⟩ = some (.int .i64 ((rd_T24 l0 x19_1).f4)) ∧ w'.cell? ⟨gb143, 5, none⟩ = some (.int .i64 ((rd_T24 l0 x19_1).f5)) ∧ w'.cell? ⟨gb143, 6, none⟩ = some (.string ((rd_T24 l0 x19_1).f6)) ∧ w'.cell? ⟨gb143, 7, none⟩ = some (.string ((rd_T24 l0 x19_1).f7)) ∧ w'.cell? ⟨gb143, 8, none⟩ = some (.slice A142_8 ((rd_T24 l0 x19_1).f8).length c142_8)) (ds := []) #[false, false, false, false, false, false, false, false] (by kernel_rfl) rfl rfl ⟨(blk_cell BK143.out 0).trans rfl, (blk_cell BK143.out 1).trans rfl, (blk_cell BK143.out 2).trans rfl, (blk_cell BK143.out 3).trans rfl, (blk_cell BK143.out 4).trans rfl, (blk_cell BK143.out 5).trans rfl, (blk_cell BK143.out 6).trans rfl, (blk_cell BK143.out 7).trans rfl, (blk_cell BK143.out 8).trans rfl⟩ (fun hHeld => ?_); refine with_tabW sumplaw09_EffectTouches.tab13 sumplaw09_EffectTouches.bits13 (fun HT_ HW_ => ?_)
                        generalize wc.drew = w25 at BK143 HB hHeld ⊢
                        refine pure_ (i := 1) (N := some 35) (v := ?_) (a' := ?_) #[false, true, false, false, false, false, false, false] rfl rfl (any_of HT_.out (by kernel_rfl)) (fun _ _ _ h => h) (Or.inl ⟨by rfl, ?_⟩) ?_ ?_
                        rotate_left
                        · intro w'
                          go_simp
                          with_reducible rfl
                        rotate_left
                        · simp only [Act.put, List.setIfInBounds_toArray, List.set_cons_zero, List.set_cons_succ, i64_w, i32_w]
                          rfl
                        refine pure_ (i := 3) (N := some 37) (v := ?_) (a' := ?_) #[false, true, false, true, false, false, false, false] rfl rfl (any_of HT_.out (by kernel_rfl)) (fun _ _ _ h => h) (Or.inl ⟨by rfl, ?_⟩) ?_ ?_
                        rotate_left
                        · intro w'
                          go_simp
                          with_reducible rfl
                        rotate_left
                        · simp only [Act.put, List.setIfInBounds_toArray, List.set_cons_zero, List.set_cons_succ, i64_w, i32_w]
                          rfl
                        refine pure_ (i := 5) (N := some 39) (v := ?_) (a' := ?_) #[false, true, false, true, false, true, false, false] rfl rfl (any_of HT_.out (by kernel_rfl)) (fun _ _ _ h => h) (Or.inl ⟨by rfl, ?_⟩) ?_ ?_
                        rotate_left
                        · intro w'
                          go_simp
                          with_reducible rfl
                        rotate_left
                        · simp only [Act.put, List.setIfInBounds_toArray, List.set_cons_zero, List.set_cons_succ, i64_w, i32_w]
                          rfl
                        refine take_ (i := 0) (N := some 34) (v := ?_) (a' := ?_) #[true, true, false, true, false, true, false, false] rfl rfl (take_ofW HT_.out HW_.out (by kernel_rfl)) (fun _ _ _ h => h) (Or.inl ⟨by rfl, ?_⟩) hHeld ?_ ?_
                        rotate_left
                        · rintro w' ⟨s0, s1, s2, s3, s4, s5, s6, s7, s8⟩
                          go_simp
                          with_reducible rfl
                        rotate_left
                        · simp only [Act.put, List.setIfInBounds_toArray, List.set_cons_zero, List.set_cons_succ, i64_w, i32_w]
                          rfl
                        refine take_ (i := 4) (N := some 38) (v := ?_) (a' := ?_) #[true, true, false, true, true, true, false, false] rfl rfl (take_ofW HT_.out HW_.out (by kernel_rfl)) (fun _ _ _ h => h) (Or.inl ⟨by rfl, ?_⟩) hHeld ?_ ?_
                        rotate_left
                        · rintro w' ⟨s0, s1, s2, s3, s4, s5, s6, s7, s8⟩
                          go_simp
                          with_reducible rfl
                        rotate_left
                        · simp only [Act.put, List.setIfInBounds_toArray, List.set_cons_zero, List.set_cons_succ, i64_w, i32_w]
                          rfl
                        refine pure_ (i := 6) (N := some 40) (v := ?_) (a' := ?_) #[true, true, false, true, true, true, true, false] rfl rfl (any_of HT_.out (by kernel_rfl)) (fun _ _ _ h => h) (Or.inl ⟨by rfl, ?_⟩) ?_ ?_
                        rotate_left
                        · intro w'
                          go_simp
                          with_reducible rfl
                        rotate_left
                        · simp only [Act.put, List.setIfInBounds_toArray, List.set_cons_zero, List.set_cons_succ, i64_w, i32_w]
                          rfl
                        refine one_ (i := 2) (N := some 36) #[true, true, true, true, true, true, true, false] rfl rfl (one_of HT_.out (by kernel_rfl)) (by decide) (fun K hK => ?_)
                        refine goes_ Try.func20 (by kernel_rfl) rfl #[.agg #[.int .i64 ((rd_T24 l0 x19_1).f0), .int .i64 ((rd_T24 l0 x19_1).f1), .int .i64 ((rd_T24 l0 x19_1).f2), .int .i64 ((rd_T24 l0 x19_1).f3), .int .i64 ((rd_T24 l0 x19_1).f4), .int .i64 ((rd_T24 l0 x19_1).f5), .string ((rd_T24 l0 x19_1).f6), .string ((rd_T24 l0 x19_1).f7), .slice A142_8 ((rd_T24 l0 x19_1).f8).length c142_8], .int .i64 a1] (by rfl) rfl rfl (by (try simp only [List.map_toArray, List.map_cons, List.map_nil]); first | done | rfl | (simp only [List.length_drop, List.length_take]; rfl)) ?_
                        with_reducible refine (effect_Touches.calls ((rd_T24 l0 x19_1).f0) ((rd_T24 l0 x19_1).f1) ((rd_T24 l0 x19_1).f2) ((rd_T24 l0 x19_1).f3) ((rd_T24 l0 x19_1).f4) ((rd_T24 l0 x19_1).f5) ((rd_T24 l0 x19_1).f6) ((rd_T24 l0 x19_1).f7) _ _ ((rd_T24 l0 x19_1).f8) a1 t145 _ ?side1 ?side2 A22.out).mono ?_
                        (case side1 => repeat (first | exact (Kd.C_below HR142_8.out HB.out) | (with_reducible refine Kd.C_alloc ?_ _) | (with_reducible refine Kd.C_drewN ?_ _) | (with_reducible refine Kd.C_drew ?_)))
                        (case side2 => exact HC142_8.out)
                        rintro e w26 ⟨rfl, hb⟩
                        refine ⟨_, rfl, ?_⟩
                        have n0_ := Aside0.mk (blk_below (g := gb143) (o := .cells #[.int .i64 ((rd_T24 l0 x19_1).f0), .int .i64 ((rd_T24 l0 x19_1).f1), .int .i64 ((rd_T24 l0 x19_1).f2), .int .i64 ((rd_T24 l0 x19_1).f3), .int .i64 ((rd_T24 l0 x19_1).f4), .int .i64 ((rd_T24 l0 x19_1).f5), .string ((rd_T24 l0 x19_1).f6), .string ((rd_T24 l0 x19_1).f7), .slice A142_8 ((rd_T24 l0 x19_1).f8).length c142_8] 24 (0, 0)) (by (with_reducible repeat (first | refine blk_drewN ?_ _ | refine blk_drew ?_ | refine blk_alloc ?_ _)); exact BK143.out) hb)
                        have n1_ := Aside0.mk (below_step (by repeat (first | (with_reducible first | exact HB.out | apply below_alloc | apply pw_below_drewN | apply below_drew1 | refine below_set ?_ GE143.out) | exact HB.out)) hb)
                        clear BK143
                        clear HB
                        have BK143 := n0_
                        have HB := n1_
                        clear n0_ n1_
                        (try clear hb)
                        (try clear hb2)
                        (try clear hk)
                        (try clear hi)
                        refine hK.out _ _ ⟨(blk_cell BK143.out 0).trans rfl, (blk_cell BK143.out 1).trans rfl, (blk_cell BK143.out 2).trans rfl, (blk_cell BK143.out 3).trans rfl, (blk_cell BK143.out 4).trans rfl, (blk_cell BK143.out 5).trans rfl, (blk_cell BK143.out 6).trans rfl, (blk_cell BK143.out 7).trans rfl, (blk_cell BK143.out 8).trans rfl⟩ (fun hHeld => ?_)
                        clear hK K
                        refine norm_ (a' := ?_) ?_ ?_
                        rotate_left
                        · show Act.put _ (some 36) _ = _
                          simp only [Act.put, List.setIfInBounds_toArray, List.set_cons_zero, List.set_cons_succ, i64_w, i32_w]
                          rfl
                        refine pure_ (i := 7) (N := some 41) (v := ?_) (a' := ?_) #[true, true, true, true, true, true, true, true] rfl rfl (any_of HT_.out (by kernel_rfl)) (fun _ _ _ h => h) (Or.inl ⟨by rfl, ?_⟩) ?_ ?_
                        rotate_left
                        · intro w'
                          go_simp
                          with_reducible rfl
                        rotate_left
                        · simp only [Act.put, List.setIfInBounds_toArray, List.set_cons_zero, List.set_cons_succ, i64_w, i32_w]
                          rfl
                        refine done_ (done_of HT_.out (by kernel_rfl)) ?_
                        try go_wp2
                        go_roundg kj11
                        case measure => have := HK1.out; have := HJ11.out; omega
                        case rel => exact ⟨(x5_11), (x6_11), (x7_1), (wrap64 (x19_1 + 1)), (by first | rfl | (simp; done) | (simp [*]; done)), (by first | rfl | (simp; done) | (simp [*]; done)), (by first | rfl | (simp; done) | (simp [*]; done)), (by first | rfl | (simp; done) | (simp [*]; done)), H', ⟨by have := HK1.out; have := HJ11.out; omega⟩, ⟨by repeat (first | (with_reducible first | exact HB.out | apply below_alloc | apply pw_below_drewN | apply below_drew1 | refine below_set ?_ GE143.out) | exact HB.out)⟩⟩
              · rw [if_neg c11] at H
                exact absurd H (by simp)
            · rw [if_neg c10] at H
              exact absurd H (by simp)
          · rw [if_neg c9] at H
            have c9b0 : decide (x19_1 < (l0.length : Int)) = false := decide_eq_false c9
            clear c9
            replace H := Option.bind_eq_some_iff.mp H
            obtain ⟨⟨t139, t140⟩, A270, H⟩ := H
            replace H : (if t139 = x5_1 then (if (t140 == x6_1) = true then ((effect_Pages.f k1 l0).bind fun t141 => (some (t141 == x7_1))) else (some false)) else (some false)) = some r := H
            have A27 := Aside0.mk A270
            clear A270
            by_cases c28 : t139 = x5_1
            · rw [if_pos c28] at H
              have c28b0 : (t139 == x5_1) = true := beq_iff_eq.mpr c28
              have c28b1 : (t139 != x5_1) = false := bne_eq_false_iff_eq.mpr c28
              clear c28
              by_cases c29 : (t140 == x6_1) = true
              · rw [if_pos c29] at H
                have c29b0 : (t140 == x6_1) = true := c29
                (try (have c29b1 : decide (t140 = x6_1) = true := by simpa using c29))
                (try (have c29b2 : (t140 == x6_1) = true := by simpa using c29))
                clear c29
                replace H := Option.bind_eq_some_iff.mp H
                obtain ⟨t141, A300, H⟩ := H
                replace H : (some (t141 == x7_1)) = some r := H
                have A30 := Aside0.mk A300
                clear A300
                obtain rfl := Option.some.inj H
                go_wp2_with (first | ((with_reducible refine gate_callee (f := 21) rfl ?_); refine goesL_ (some 46) rfl rfl Try.func21 (by kernel_rfl) rfl #[.slice A0 l0.length c0, .int .i64 a1] rfl (by (try simp only [List.map_toArray, List.map_cons, List.map_nil]); first | done | rfl | (simp only [List.length_drop, List.length_take]; rfl)) ?_; (with_reducible refine (effect_Last.calls k1 _ _ l0 a1 t139 t140 _ ?side1 ?side2 A27.out).mono ?_); (case side1 => repeat (first | exact (Kd.C_below HR0.out HB.out) | (with_reducible refine Kd.C_alloc ?_ _) | (with_reducible refine Kd.C_drewN ?_ _) | (with_reducible refine Kd.C_drew ?_))); (case side2 => exact HC0.out); rintro e w31 ⟨rfl, hb⟩; refine ⟨_, rfl, ?_⟩; have n0_ := Aside0.mk (below_step (by repeat (first | (with_reducible first | exact HB.out | apply below_alloc | apply pw_below_drewN | apply below_drew1) | exact HB.out)) hb); clear HB; have HB := n0_; clear n0_; (try clear hb); (try clear hb2); (try clear hk); (try clear hi)) | (go_at_call 22; (with_reducible refine (effect_Pages.calls k1 _ _ l0 t141 _ ?side1 ?side2 A30.out).mono ?_); (case side1 => repeat (first | exact (Kd.C_below HR0.out HB.out) | (with_reducible refine Kd.C_alloc ?_ _) | (with_reducible refine Kd.C_drewN ?_ _) | (with_reducible refine Kd.C_drew ?_))); (case side2 => exact HC0.out); rintro e w32 ⟨rfl, hb⟩; have n0_ := Aside0.mk (below_step (by repeat (first | (with_reducible first | exact HB.out | apply below_alloc | apply pw_below_drewN | apply below_drew1) | exact HB.out)) hb); clear HB; have HB := n0_; clear n0_; (try clear hb); (try clear hb2); (try clear hk); (try clear hi)))
                go_ret
                exact ⟨by first | rfl | (simp [errW_none, errW_some] <;> rfl) | (simp [*, errW_none, errW_some] <;> rfl) | (refine L.ret_bool ?_; rw [Bool.eq_iff_iff]; simp; done) | (refine L.ret_bool ?_; rw [Bool.eq_iff_iff]; simp [*]; done), by repeat (first | (with_reducible first | exact HB.out | apply below_alloc | apply pw_below_drewN | apply below_drew1) | exact HB.out)⟩
              · rw [if_neg c29] at H
                have c29b0 : (t140 == x6_1) = false := by simpa using c29
                (try (have c29b1 : decide (t140 = x6_1) = false := by simpa using c29))
                (try (have c29b2 : (t140 == x6_1) = false := by simpa using c29))
                (try (have c29b3 : ¬ (t140 = x6_1) := by simpa using c29))
                clear c29
                exact absurd ((Option.some.inj H).trans HT.out) (by simp)
            · rw [if_neg c28] at H
              have c28b0 : (t139 == x5_1) = false := beq_eq_false_iff_ne.mpr c28
              have c28b1 : (t139 != x5_1) = true := bne_iff_ne.mpr c28
              exact absurd ((Option.some.inj H).trans HT.out) (by simp)
    · replace c6 := Bool.eq_false_iff.mpr c6
      subst c6
      have H1 : (some true) = some r := by rw [if_neg (show ¬ (false = true) by decide)] at H; exact H
      clear H
      have H := H1
      clear H1
      obtain rfl := Option.some.inj H
      go_enter Try.func4, Try.ntmps4
      go_wp2_with (first | ((with_reducible refine gate_callee (f := 12) rfl ?_); refine goesL_ (some 12) rfl rfl Try.func12 (by kernel_rfl) rfl #[] rfl (by (try simp only [List.map_toArray, List.map_cons, List.map_nil]); first | done | rfl | (simp only [List.length_drop, List.length_take]; rfl)) ?_; (with_reducible refine (sumplaw09_awake.calls k  true _ A3.out).mono ?_); rintro e w33 ⟨rfl, hb⟩; refine ⟨_, rfl, ?_⟩; have n0_ := Aside0.mk (below_step (by repeat (first | (with_reducible first | exact HB.out | apply below_alloc | apply pw_below_drewN | apply below_drew1) | exact HB.out)) hb); clear HB; have HB := n0_; clear n0_; (try clear hb); (try clear hb2); (try clear hk); (try clear hi)) | ((with_reducible refine gate_callee (f := 13) rfl ?_); refine goesL_ (some 15) rfl rfl Try.func13 (by kernel_rfl) rfl #[.slice A0 l0.length c0] rfl (by (try simp only [List.map_toArray, List.map_cons, List.map_nil]); first | done | rfl | (simp only [List.length_drop, List.length_take]; rfl)) ?_; (with_reducible refine (sumplaw09_Few.calls k _ _ l0 false _ ?side1 ?side2 A5.out).mono ?_); (case side1 => repeat (first | exact (Kd.C_below HR0.out HB.out) | (with_reducible refine Kd.C_alloc ?_ _) | (with_reducible refine Kd.C_drewN ?_ _) | (with_reducible refine Kd.C_drew ?_))); (case side2 => exact HC0.out); rintro e w34 ⟨rfl, hb⟩; refine ⟨_, rfl, ?_⟩; have n0_ := Aside0.mk (below_step (by repeat (first | (with_reducible first | exact HB.out | apply below_alloc | apply pw_below_drewN | apply below_drew1) | exact HB.out)) hb); clear HB; have HB := n0_; clear n0_; (try clear hb); (try clear hb2); (try clear hk); (try clear hi)))
      go_ret
      exact ⟨by first | rfl | (simp [errW_none, errW_some] <;> rfl) | (simp [*, errW_none, errW_some] <;> rfl) | (refine L.ret_bool ?_; rw [Bool.eq_iff_iff]; simp; done) | (refine L.ret_bool ?_; rw [Bool.eq_iff_iff]; simp [*]; done), by repeat (first | (with_reducible first | exact HB.out | apply below_alloc | apply pw_below_drewN | apply below_drew1) | exact HB.out)⟩
  · replace c4 := Bool.eq_false_iff.mpr c4
    subst c4
    have H1 : (some false) = some r := by rw [if_neg (show ¬ (false = true) by decide)] at H; exact H
    clear H
    have H := H1
    clear H1
    exact absurd ((Option.some.inj H).trans HT.out) (by simp)

end Go.Proofs.Yteoklaofbdfjlaa.PEffectTouches
