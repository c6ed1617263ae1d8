-- Written by a program of this session: the printer, with contracts put in that were proved by hand. Lean checks it.
import Derived.Test.YtbbpjjbgdemmpaaPCallChecksx0
import Derived.Test.YtbbpjjbgdemmpaaPCallChecksx1
namespace Go.Proofs.Ytbbpjjbgdemmpaa.PCallChecks
open Go.RowKit Go.Proofs.YtbbpjjbgdemmpaaW.PrintWords Go.Proofs.YtbbpjjbgdemmpaaW.PrintLast Go.Proofs.YtbbpjjbgdemmpaaW.PrintMore
attribute [local go_sem] max2_int min2_int max_two min_two max_three min_three max_four min_four   -- for this text's walks alone
set_option linter.unusedVariables false
set_option linter.unusedSimpArgs false

/-! ### sumpref27_Check: function 45 -/
mutual
def sumpref27_Check.j0 : Nat → Bool → Int → Int → Int → Int → Int → ByteArray → ByteArray → List Int → Option (Int)
 | 0, _, _, _, _, _, _, _, _, _ => none
 | k + 1, x21, x121000, x121001, x121002, x121003, x121004, x121005, x121006, x121007 => if x21 = true then (some 22) else (if x121000 = 3 then (if x121003 < 0 then (sumpref27_Check.j1 k true x121000 x121001 x121002 x121003 x121004 x121005 x121006 x121007) else (if x121003 > 1024 then (sumpref27_Check.j1 k true x121000 x121001 x121002 x121003 x121004 x121005 x121006 x121007) else (if x121000 = 15 then (sumpref27_Check.j1 k (decide (x121003 < 0)) x121000 x121001 x121002 x121003 x121004 x121005 x121006 x121007) else (sumpref27_Check.j1 k false x121000 x121001 x121002 x121003 x121004 x121005 x121006 x121007)))) else (if x121000 = 5 then (if x121003 < 0 then (sumpref27_Check.j1 k true x121000 x121001 x121002 x121003 x121004 x121005 x121006 x121007) else (if x121003 > 1024 then (sumpref27_Check.j1 k true x121000 x121001 x121002 x121003 x121004 x121005 x121006 x121007) else (if x121000 = 15 then (sumpref27_Check.j1 k (decide (x121003 < 0)) x121000 x121001 x121002 x121003 x121004 x121005 x121006 x121007) else (sumpref27_Check.j1 k false x121000 x121001 x121002 x121003 x121004 x121005 x121006 x121007)))) else (if x121000 = 15 then (sumpref27_Check.j1 k (decide (x121003 < 0)) x121000 x121001 x121002 x121003 x121004 x121005 x121006 x121007) else (sumpref27_Check.j1 k false x121000 x121001 x121002 x121003 x121004 x121005 x121006 x121007))))
def sumpref27_Check.j1 : Nat → Bool → Int → Int → Int → Int → Int → ByteArray → ByteArray → List Int → Option (Int)
 | 0, _, _, _, _, _, _, _, _, _ => none
 | k + 1, x49, x121000, x121001, x121002, x121003, x121004, x121005, x121006, x121007 => if x49 = true then (some 22) else (if x121000 = 5 then (if x121004 < 0 then (some 22) else (if x121000 = 4 then (if (x121007.length : Int) > 1024 then (some 22) else (some 0)) else (if x121000 = 6 then (if (x121007.length : Int) > 1024 then (some 22) else (some 0)) else (some 0)))) else (if x121000 = 6 then (if x121004 < 0 then (some 22) else (if x121000 = 4 then (if (x121007.length : Int) > 1024 then (some 22) else (some 0)) else (if (x121007.length : Int) > 1024 then (some 22) else (some 0)))) else (if x121000 = 7 then (if x121004 < 0 then (some 22) else (if x121000 = 4 then (if (x121007.length : Int) > 1024 then (some 22) else (some 0)) else (some 0))) else (if x121000 = 4 then (if (x121007.length : Int) > 1024 then (some 22) else (some 0)) else (some 0)))))
end
def sumpref27_Check.f (k : Nat) (a0_0 : Int) (a0_1 : Int) (a0_2 : Int) (a0_3 : Int) (a0_4 : Int) (a0_5 : ByteArray) (a0_6 : ByteArray) (l0_7 : List Int) : Option (Int) := (sumpref27_Word.f a0_0).bind fun t121 => (if t121.toList = ([] : List UInt8) then (sumpref27_Check.j0 k true a0_0 a0_1 a0_2 a0_3 a0_4 a0_5 a0_6 l0_7) else (if a0_0 = 1 then (if a0_2 < 0 then (sumpref27_Check.j0 k true a0_0 a0_1 a0_2 a0_3 a0_4 a0_5 a0_6 l0_7) else (sumpref27_Check.j0 k (decide (a0_2 > 31)) a0_0 a0_1 a0_2 a0_3 a0_4 a0_5 a0_6 l0_7)) else (sumpref27_Check.j0 k false a0_0 a0_1 a0_2 a0_3 a0_4 a0_5 a0_6 l0_7)))
theorem sumpref27_Check.mono_l : ∀ k, (∀ y0 y1 y2 y3 y4 y5 y6 y7 y8, LeO (sumpref27_Check.j0 k y0 y1 y2 y3 y4 y5 y6 y7 y8) (sumpref27_Check.j0 (k + 1) y0 y1 y2 y3 y4 y5 y6 y7 y8)) ∧ (∀ y0 y1 y2 y3 y4 y5 y6 y7 y8, LeO (sumpref27_Check.j1 k y0 y1 y2 y3 y4 y5 y6 y7 y8) (sumpref27_Check.j1 (k + 1) y0 y1 y2 y3 y4 y5 y6 y7 y8))
 | 0 => ⟨fun _ _ _ _ _ _ _ _ _ r h => by simp [sumpref27_Check.j0] at h, fun _ _ _ _ _ _ _ _ _ r h => by simp [sumpref27_Check.j1] at h⟩
 | k + 1 => by
  obtain ⟨ih0, ih1⟩ := sumpref27_Check.mono_l k
  refine ⟨?_, ?_⟩
  ·intro y0 y1 y2 y3 y4 y5 y6 y7 y8
   unfold sumpref27_Check.j0
   repeat' first
   | (with_reducible exact ih0 _ _ _ _ _ _ _ _ _)
   | (with_reducible exact ih1 _ _ _ _ _ _ _ _ _)
   | (with_reducible exact LeO.refl _)
   | (with_reducible exact LeO.none _)
   | (with_reducible refine LeO.ite ?_ ?_)
   | (with_reducible refine LeO.bind ?_ (fun _ => ?_))
   | exact ih0 _ _ _ _ _ _ _ _ _
   | exact ih1 _ _ _ _ _ _ _ _ _
   | exact LeO.none _
   | refine LeO.ite ?_ ?_
   | refine LeO.bind ?_ (fun _ => ?_)
  ·intro y0 y1 y2 y3 y4 y5 y6 y7 y8
   unfold sumpref27_Check.j1
   repeat' first
   | (with_reducible exact ih0 _ _ _ _ _ _ _ _ _)
   | (with_reducible exact ih1 _ _ _ _ _ _ _ _ _)
   | (with_reducible exact LeO.refl _)
   | (with_reducible exact LeO.none _)
   | (with_reducible refine LeO.ite ?_ ?_)
   | (with_reducible refine LeO.bind ?_ (fun _ => ?_))
   | exact ih0 _ _ _ _ _ _ _ _ _
   | exact ih1 _ _ _ _ _ _ _ _ _
   | exact LeO.none _
   | refine LeO.ite ?_ ?_
   | refine LeO.bind ?_ (fun _ => ?_)
theorem sumpref27_Check.mono : ∀ a0 a1 a2 a3 a4 a5 a6 a7 k, LeO (sumpref27_Check.f k a0 a1 a2 a3 a4 a5 a6 a7) (sumpref27_Check.f (k + 1) a0 a1 a2 a3 a4 a5 a6 a7) := by
 intro a0 a1 a2 a3 a4 a5 a6 a7 k
 obtain ⟨ih0, ih1⟩ := sumpref27_Check.mono_l k
 unfold sumpref27_Check.f
 repeat' first
   | (with_reducible exact ih0 _ _ _ _ _ _ _ _ _)
   | (with_reducible exact ih1 _ _ _ _ _ _ _ _ _)
   | (with_reducible exact LeO.refl _)
   | (with_reducible exact LeO.none _)
   | (with_reducible refine LeO.ite ?_ ?_)
   | (with_reducible refine LeO.bind ?_ (fun _ => ?_))
   | exact ih0 _ _ _ _ _ _ _ _ _
   | exact ih1 _ _ _ _ _ _ _ _ _
   | exact LeO.none _
   | refine LeO.ite ?_ ?_
   | refine LeO.bind ?_ (fun _ => ?_)
set_option maxHeartbeats 8000000 in
set_option maxRecDepth 100000 in
theorem sumpref27_Check.calls (k : Nat) (a0_0 : Int) (a0_1 : Int) (a0_2 : Int) (a0_3 : Int) (a0_4 : Int) (a0_5 : ByteArray) (a0_6 : ByteArray) (A0_7 : Option Addr) (c0_7 : Nat) (l0_7 : List Int) (r : Int) (w : World) (hr0_7 : Kd.C (Kd.int .u8) w A0_7 l0_7.length l0_7) (hc0_7 : l0_7.length ≤ c0_7) (h : sumpref27_Check.f k a0_0 a0_1 a0_2 a0_3 a0_4 a0_5 a0_6 l0_7 = some r) :
  Calls Try.prog 45 #[.agg #[.int .i64 a0_0, .int .i64 a0_1, .int .i64 a0_2, .int .i64 a0_3, .int .i64 a0_4, .string a0_5, .string a0_6, .slice A0_7 l0_7.length c0_7]] w fun e w' => e = .returned (.int .i64 r) ∧ Below w.heap.size w w' := by
 have hu40 := Try.underlying40
 have HR0_7 := Aside0.mk hr0_7
 have HC0_7 := Aside0.mk hc0_7
 clear hr0_7 hc0_7
 have HB := Aside0.mk (Below.refl w.heap.size w)
 have H : ((sumpref27_Word.f a0_0).bind fun t121 => (if t121.toList = ([] : List UInt8) then (sumpref27_Check.j0 k true a0_0 a0_1 a0_2 a0_3 a0_4 a0_5 a0_6 l0_7) else (if a0_0 = 1 then (if a0_2 < 0 then (sumpref27_Check.j0 k true a0_0 a0_1 a0_2 a0_3 a0_4 a0_5 a0_6 l0_7) else (sumpref27_Check.j0 k (decide (a0_2 > 31)) a0_0 a0_1 a0_2 a0_3 a0_4 a0_5 a0_6 l0_7)) else (sumpref27_Check.j0 k false a0_0 a0_1 a0_2 a0_3 a0_4 a0_5 a0_6 l0_7)))) = some r := h
 clear h
 have HC2 := Aside0.mk H
 clear H
 go_enter Try.func45, Try.ntmps45
 go_upto_region 1 with (first | ((with_reducible refine gate_dst (N := 1) rfl ?_); (try (refine gate_guard (by rfl) ?_; dsimp only)); refine box_event ?hg (N := 1) ?hd (cs := #[.int .i64 a0_0, .int .i64 a0_1, .int .i64 a0_2, .int .i64 a0_3, .int .i64 a0_4, .string a0_5, .string a0_6, .slice A0_7 l0_7.length c0_7]) (t := 40) ?hr ?_; (case hd => rfl); (case hg => rfl); (case hr => first | (go_simp; done) | (go_simp; rfl)); intro gb120 hg w3 hbox hb; have n0_ := Aside0.mk (below_step (by repeat (first | (with_reducible first | exact HB.out | apply below_alloc | apply pw_below_drewN | apply below_drew1) | exact HB.out)) hb); have n1_ := Aside0.mk (hbox); have n2_ := Aside0.mk ((by rw [hg]; exact (below_size (by repeat (first | (with_reducible first | exact HB.out | apply below_alloc | apply pw_below_drewN | apply below_drew1) | exact HB.out))) : w.heap.size ≤ gb120)); have n3_ := Aside0.mk ((by rw [hg]; exact (below_size (by repeat (first | (with_reducible first | exact HB.out | apply below_alloc | apply pw_below_drewN | apply below_drew1) | exact HB.out))) : w.heap.size ≤ gb120)); clear HB; have HB := n0_; have BK120 := n1_; have GW120 := n2_; have GE120 := n3_; clear n0_ n1_ n2_ n3_; clear hb hbox hg))
 (try simp only [Act.put, List.setIfInBounds_toArray, List.set_cons_zero, List.set_cons_succ])
 go_cut [21] (fun v21 wc => ∃ (kq : Nat) (x21_1 : Bool), v21 = .bool x21_1 ∧ Aside0 (sumpref27_Check.j0 kq x21_1 a0_0 a0_1 a0_2 a0_3 a0_4 a0_5 a0_6 l0_7 = some r) ∧ Aside0 (kq ≤ k) ∧ Aside0 (wc.heap[gb120]? = some (.cells #[.int .i64 a0_0, .int .i64 a0_1, .int .i64 a0_2, .int .i64 a0_3, .int .i64 a0_4, .string a0_5, .string a0_6, (.slice A0_7 l0_7.length c0_7)] 40 (0, 0))) ∧ Aside0 (Below w.heap.size w wc))
 case first =>
  have H := HC2.out
  clear HC2
  replace H := Option.bind_eq_some_iff.mp H
  obtain ⟨t121, A40, H⟩ := H
  replace H : (if t121.toList = ([] : List UInt8) then (sumpref27_Check.j0 k true a0_0 a0_1 a0_2 a0_3 a0_4 a0_5 a0_6 l0_7) else (if a0_0 = 1 then (if a0_2 < 0 then (sumpref27_Check.j0 k true a0_0 a0_1 a0_2 a0_3 a0_4 a0_5 a0_6 l0_7) else (sumpref27_Check.j0 k (decide (a0_2 > 31)) a0_0 a0_1 a0_2 a0_3 a0_4 a0_5 a0_6 l0_7)) else (sumpref27_Check.j0 k false a0_0 a0_1 a0_2 a0_3 a0_4 a0_5 a0_6 l0_7))) = some r := H
  have A4 := Aside0.mk A40
  clear A40
  by_cases c5 : t121.toList = ([] : List UInt8)
  ·rw [if_pos c5] at H
   have c5b0 : (t121.toList == ([] : List UInt8)) = true := beq_iff_eq.mpr c5
   have c5b1 : (t121.toList != ([] : List UInt8)) = false := bne_eq_false_iff_eq.mpr c5
   clear c5
   (first | rw [c5b0] | (simp only [i64_w, i32_w]; rw [c5b0]) | skip)
   have H' := Aside0.mk H
   clear H
   have hcz6_0 : w3.cell? ⟨gb120, 0, none⟩ = some (.int .i64 a0_0) := (blk_cell BK120.out 0).trans rfl
   have hcz6_1 : w3.cell? ⟨gb120, 1, none⟩ = some (.int .i64 a0_1) := (blk_cell BK120.out 1).trans rfl
   have hcz6_2 : w3.cell? ⟨gb120, 2, none⟩ = some (.int .i64 a0_2) := (blk_cell BK120.out 2).trans rfl
   have hcz6_3 : w3.cell? ⟨gb120, 3, none⟩ = some (.int .i64 a0_3) := (blk_cell BK120.out 3).trans rfl
   have hcz6_4 : w3.cell? ⟨gb120, 4, none⟩ = some (.int .i64 a0_4) := (blk_cell BK120.out 4).trans rfl
   have hcz6_5 : w3.cell? ⟨gb120, 5, none⟩ = some (.string a0_5) := (blk_cell BK120.out 5).trans rfl
   have hcz6_6 : w3.cell? ⟨gb120, 6, none⟩ = some (.string a0_6) := (blk_cell BK120.out 6).trans rfl
   have hcz6_7 : w3.cell? ⟨gb120, 7, none⟩ = some (.slice A0_7 l0_7.length c0_7) := (blk_cell BK120.out 7).trans rfl
   have hfz6_0 := blk_frozen BK120.out 0
   have hfz6_1 := blk_frozen BK120.out 1
   have hfz6_2 := blk_frozen BK120.out 2
   have hfz6_3 := blk_frozen BK120.out 3
   have hfz6_4 := blk_frozen BK120.out 4
   have hfz6_5 := blk_frozen BK120.out 5
   have hfz6_6 := blk_frozen BK120.out 6
   have hfz6_7 := blk_frozen BK120.out 7
   go_wp2_with (first | ((with_reducible refine gate_callee (f := 46) rfl ?_); refine goesL_ (some 5) rfl rfl Try.func46 (by kernel_rfl) rfl #[.int .i64 a0_0] rfl (by (try simp only [List.map_toArray, List.map_cons, List.map_nil]); first | done | rfl | (simp only [List.length_drop, List.length_take]; rfl)) ?_; (with_reducible refine (sumpref27_Word.calls a0_0 t121 _ A4.out).mono ?_); rintro e w7 ⟨rfl, hb⟩; refine ⟨_, rfl, ?_⟩; have n0_ := Aside0.mk (blk_below (g := gb120) (o := .cells #[.int .i64 a0_0, .int .i64 a0_1, .int .i64 a0_2, .int .i64 a0_3, .int .i64 a0_4, .string a0_5, .string a0_6, .slice A0_7 l0_7.length c0_7] 40 (0, 0)) (by (with_reducible repeat (first | refine blk_drewN ?_ _ | refine blk_drew ?_ | refine blk_alloc ?_ _)); exact BK120.out) hb); have n1_ := Aside0.mk (below_step (by repeat (first | (with_reducible first | exact HB.out | apply below_alloc | apply pw_below_drewN | apply below_drew1 | refine below_set ?_ GE120.out) | exact HB.out)) hb); clear BK120; clear HB; have BK120 := n0_; have HB := n1_; clear n0_ n1_; (try clear hb); (try clear hb2); (try clear hk); (try clear hi)))
   go_meet
   case rel => exact ⟨_, (true), (by first | rfl | (simp; done) | (simp [*]; done)), H', ⟨by first | omega | exact Nat.le_refl _⟩, ⟨by (with_reducible repeat (first | refine blk_drewN ?_ _ | refine blk_drew ?_ | refine blk_alloc ?_ _)); exact BK120.out⟩, ⟨by repeat (first | (with_reducible first | exact HB.out | apply below_alloc | apply pw_below_drewN | apply below_drew1 | refine below_set ?_ GE120.out) | exact HB.out)⟩⟩
  ·rw [if_neg c5] at H
   have c5b0 : (t121.toList == ([] : List UInt8)) = false := beq_eq_false_iff_ne.mpr c5
   have c5b1 : (t121.toList != ([] : List UInt8)) = true := bne_iff_ne.mpr c5
   (first | rw [c5b0] | (simp only [i64_w, i32_w]; rw [c5b0]) | skip)
   by_cases c8 : a0_0 = 1
   ·rw [if_pos c8] at H
    have c8b0 : (a0_0 == 1) = true := beq_iff_eq.mpr c8
    have c8b1 : (a0_0 != 1) = false := bne_eq_false_iff_eq.mpr c8
    clear c8
    by_cases c9 : a0_2 < 0
    ·rw [if_pos c9] at H
     have c9b0 : decide (a0_2 < 0) = true := decide_eq_true c9
     clear c9
     have H' := Aside0.mk H
     clear H
     have hcz10_0 : w3.cell? ⟨gb120, 0, none⟩ = some (.int .i64 a0_0) := (blk_cell BK120.out 0).trans rfl
     have hcz10_1 : w3.cell? ⟨gb120, 1, none⟩ = some (.int .i64 a0_1) := (blk_cell BK120.out 1).trans rfl
     have hcz10_2 : w3.cell? ⟨gb120, 2, none⟩ = some (.int .i64 a0_2) := (blk_cell BK120.out 2).trans rfl
     have hcz10_3 : w3.cell? ⟨gb120, 3, none⟩ = some (.int .i64 a0_3) := (blk_cell BK120.out 3).trans rfl
     have hcz10_4 : w3.cell? ⟨gb120, 4, none⟩ = some (.int .i64 a0_4) := (blk_cell BK120.out 4).trans rfl
     have hcz10_5 : w3.cell? ⟨gb120, 5, none⟩ = some (.string a0_5) := (blk_cell BK120.out 5).trans rfl
     have hcz10_6 : w3.cell? ⟨gb120, 6, none⟩ = some (.string a0_6) := (blk_cell BK120.out 6).trans rfl
     have hcz10_7 : w3.cell? ⟨gb120, 7, none⟩ = some (.slice A0_7 l0_7.length c0_7) := (blk_cell BK120.out 7).trans rfl
     have hfz10_0 := blk_frozen BK120.out 0
     have hfz10_1 := blk_frozen BK120.out 1
     have hfz10_2 := blk_frozen BK120.out 2
     have hfz10_3 := blk_frozen BK120.out 3
     have hfz10_4 := blk_frozen BK120.out 4
     have hfz10_5 := blk_frozen BK120.out 5
     have hfz10_6 := blk_frozen BK120.out 6
     have hfz10_7 := blk_frozen BK120.out 7
     go_wp2_with (first | ((with_reducible refine gate_callee (f := 46) rfl ?_); refine goesL_ (some 5) rfl rfl Try.func46 (by kernel_rfl) rfl #[.int .i64 a0_0] rfl (by (try simp only [List.map_toArray, List.map_cons, List.map_nil]); first | done | rfl | (simp only [List.length_drop, List.length_take]; rfl)) ?_; (with_reducible refine (sumpref27_Word.calls a0_0 t121 _ A4.out).mono ?_); rintro e w11 ⟨rfl, hb⟩; refine ⟨_, rfl, ?_⟩; have n0_ := Aside0.mk (blk_below (g := gb120) (o := .cells #[.int .i64 a0_0, .int .i64 a0_1, .int .i64 a0_2, .int .i64 a0_3, .int .i64 a0_4, .string a0_5, .string a0_6, .slice A0_7 l0_7.length c0_7] 40 (0, 0)) (by (with_reducible repeat (first | refine blk_drewN ?_ _ | refine blk_drew ?_ | refine blk_alloc ?_ _)); exact BK120.out) hb); have n1_ := Aside0.mk (below_step (by repeat (first | (with_reducible first | exact HB.out | apply below_alloc | apply pw_below_drewN | apply below_drew1 | refine below_set ?_ GE120.out) | exact HB.out)) hb); clear BK120; clear HB; have BK120 := n0_; have HB := n1_; clear n0_ n1_; (try clear hb); (try clear hb2); (try clear hk); (try clear hi); have hcz12_0 : w11.cell? ⟨gb120, 0, none⟩ = some (.int .i64 a0_0) := (blk_cell BK120.out 0).trans rfl; have hcz12_1 : w11.cell? ⟨gb120, 1, none⟩ = some (.int .i64 a0_1) := (blk_cell BK120.out 1).trans rfl; have hcz12_2 : w11.cell? ⟨gb120, 2, none⟩ = some (.int .i64 a0_2) := (blk_cell BK120.out 2).trans rfl; have hcz12_3 : w11.cell? ⟨gb120, 3, none⟩ = some (.int .i64 a0_3) := (blk_cell BK120.out 3).trans rfl; have hcz12_4 : w11.cell? ⟨gb120, 4, none⟩ = some (.int .i64 a0_4) := (blk_cell BK120.out 4).trans rfl; have hcz12_5 : w11.cell? ⟨gb120, 5, none⟩ = some (.string a0_5) := (blk_cell BK120.out 5).trans rfl; have hcz12_6 : w11.cell? ⟨gb120, 6, none⟩ = some (.string a0_6) := (blk_cell BK120.out 6).trans rfl; have hcz12_7 : w11.cell? ⟨gb120, 7, none⟩ = some (.slice A0_7 l0_7.length c0_7) := (blk_cell BK120.out 7).trans rfl; have hfz12_0 := blk_frozen BK120.out 0; have hfz12_1 := blk_frozen BK120.out 1; have hfz12_2 := blk_frozen BK120.out 2; have hfz12_3 := blk_frozen BK120.out 3; have hfz12_4 := blk_frozen BK120.out 4; have hfz12_5 := blk_frozen BK120.out 5; have hfz12_6 := blk_frozen BK120.out 6; have hfz12_7 := blk_frozen BK120.out 7))
     go_meet
     case rel => exact ⟨_, (true), (by first | rfl | (simp; done) | (simp [*]; done)), H', ⟨by first | omega | exact Nat.le_refl _⟩, ⟨by (with_reducible repeat (first | refine blk_drewN ?_ _ | refine blk_drew ?_ | refine blk_alloc ?_ _)); exact BK120.out⟩, ⟨by repeat (first | (with_reducible first | exact HB.out | apply below_alloc | apply pw_below_drewN | apply below_drew1 | refine below_set ?_ GE120.out) | exact HB.out)⟩⟩
    ·rw [if_neg c9] at H
     have c9b0 : decide (a0_2 < 0) = false := decide_eq_false c9
     clear c9
     have H' := Aside0.mk H
     clear H
     have hcz13_0 : w3.cell? ⟨gb120, 0, none⟩ = some (.int .i64 a0_0) := (blk_cell BK120.out 0).trans rfl
     have hcz13_1 : w3.cell? ⟨gb120, 1, none⟩ = some (.int .i64 a0_1) := (blk_cell BK120.out 1).trans rfl
     have hcz13_2 : w3.cell? ⟨gb120, 2, none⟩ = some (.int .i64 a0_2) := (blk_cell BK120.out 2).trans rfl
     have hcz13_3 : w3.cell? ⟨gb120, 3, none⟩ = some (.int .i64 a0_3) := (blk_cell BK120.out 3).trans rfl
     have hcz13_4 : w3.cell? ⟨gb120, 4, none⟩ = some (.int .i64 a0_4) := (blk_cell BK120.out 4).trans rfl
     have hcz13_5 : w3.cell? ⟨gb120, 5, none⟩ = some (.string a0_5) := (blk_cell BK120.out 5).trans rfl
     have hcz13_6 : w3.cell? ⟨gb120, 6, none⟩ = some (.string a0_6) := (blk_cell BK120.out 6).trans rfl
     have hcz13_7 : w3.cell? ⟨gb120, 7, none⟩ = some (.slice A0_7 l0_7.length c0_7) := (blk_cell BK120.out 7).trans rfl
     have hfz13_0 := blk_frozen BK120.out 0
     have hfz13_1 := blk_frozen BK120.out 1
     have hfz13_2 := blk_frozen BK120.out 2
     have hfz13_3 := blk_frozen BK120.out 3
     have hfz13_4 := blk_frozen BK120.out 4
     have hfz13_5 := blk_frozen BK120.out 5
     have hfz13_6 := blk_frozen BK120.out 6
     have hfz13_7 := blk_frozen BK120.out 7
     go_wp2_with (first | ((with_reducible refine gate_callee (f := 46) rfl ?_); refine goesL_ (some 5) rfl rfl Try.func46 (by kernel_rfl) rfl #[.int .i64 a0_0] rfl (by (try simp only [List.map_toArray, List.map_cons, List.map_nil]); first | done | rfl | (simp only [List.length_drop, List.length_take]; rfl)) ?_; (with_reducible refine (sumpref27_Word.calls a0_0 t121 _ A4.out).mono ?_); rintro e w14 ⟨rfl, hb⟩; refine ⟨_, rfl, ?_⟩; have n0_ := Aside0.mk (blk_below (g := gb120) (o := .cells #[.int .i64 a0_0, .int .i64 a0_1, .int .i64 a0_2, .int .i64 a0_3, .int .i64 a0_4, .string a0_5, .string a0_6, .slice A0_7 l0_7.length c0_7] 40 (0, 0)) (by (with_reducible repeat (first | refine blk_drewN ?_ _ | refine blk_drew ?_ | refine blk_alloc ?_ _)); exact BK120.out) hb); have n1_ := Aside0.mk (below_step (by repeat (first | (with_reducible first | exact HB.out | apply below_alloc | apply pw_below_drewN | apply below_drew1 | refine below_set ?_ GE120.out) | exact HB.out)) hb); clear BK120; clear HB; have BK120 := n0_; have HB := n1_; clear n0_ n1_; (try clear hb); (try clear hb2); (try clear hk); (try clear hi); have hcz15_0 : w14.cell? ⟨gb120, 0, none⟩ = some (.int .i64 a0_0) := (blk_cell BK120.out 0).trans rfl; have hcz15_1 : w14.cell? ⟨gb120, 1, none⟩ = some (.int .i64 a0_1) := (blk_cell BK120.out 1).trans rfl; have hcz15_2 : w14.cell? ⟨gb120, 2, none⟩ = some (.int .i64 a0_2) := (blk_cell BK120.out 2).trans rfl; have hcz15_3 : w14.cell? ⟨gb120, 3, none⟩ = some (.int .i64 a0_3) := (blk_cell BK120.out 3).trans rfl; have hcz15_4 : w14.cell? ⟨gb120, 4, none⟩ = some (.int .i64 a0_4) := (blk_cell BK120.out 4).trans rfl; have hcz15_5 : w14.cell? ⟨gb120, 5, none⟩ = some (.string a0_5) := (blk_cell BK120.out 5).trans rfl; have hcz15_6 : w14.cell? ⟨gb120, 6, none⟩ = some (.string a0_6) := (blk_cell BK120.out 6).trans rfl; have hcz15_7 : w14.cell? ⟨gb120, 7, none⟩ = some (.slice A0_7 l0_7.length c0_7) := (blk_cell BK120.out 7).trans rfl; have hfz15_0 := blk_frozen BK120.out 0; have hfz15_1 := blk_frozen BK120.out 1; have hfz15_2 := blk_frozen BK120.out 2; have hfz15_3 := blk_frozen BK120.out 3; have hfz15_4 := blk_frozen BK120.out 4; have hfz15_5 := blk_frozen BK120.out 5; have hfz15_6 := blk_frozen BK120.out 6; have hfz15_7 := blk_frozen BK120.out 7))
     go_meet
     case rel => exact ⟨_, (decide (a0_2 > 31)), (by first | rfl | (simp; done) | (simp [*]; done)), H', ⟨by first | omega | exact Nat.le_refl _⟩, ⟨by (with_reducible repeat (first | refine blk_drewN ?_ _ | refine blk_drew ?_ | refine blk_alloc ?_ _)); exact BK120.out⟩, ⟨by repeat (first | (with_reducible first | exact HB.out | apply below_alloc | apply pw_below_drewN | apply below_drew1 | refine below_set ?_ GE120.out) | exact HB.out)⟩⟩
   ·rw [if_neg c8] at H
    have c8b0 : (a0_0 == 1) = false := beq_eq_false_iff_ne.mpr c8
    have c8b1 : (a0_0 != 1) = true := bne_iff_ne.mpr c8
    have H' := Aside0.mk H
    clear H
    have hcz16_0 : w3.cell? ⟨gb120, 0, none⟩ = some (.int .i64 a0_0) := (blk_cell BK120.out 0).trans rfl
    have hcz16_1 : w3.cell? ⟨gb120, 1, none⟩ = some (.int .i64 a0_1) := (blk_cell BK120.out 1).trans rfl
    have hcz16_2 : w3.cell? ⟨gb120, 2, none⟩ = some (.int .i64 a0_2) := (blk_cell BK120.out 2).trans rfl
    have hcz16_3 : w3.cell? ⟨gb120, 3, none⟩ = some (.int .i64 a0_3) := (blk_cell BK120.out 3).trans rfl
    have hcz16_4 : w3.cell? ⟨gb120, 4, none⟩ = some (.int .i64 a0_4) := (blk_cell BK120.out 4).trans rfl
    have hcz16_5 : w3.cell? ⟨gb120, 5, none⟩ = some (.string a0_5) := (blk_cell BK120.out 5).trans rfl
    have hcz16_6 : w3.cell? ⟨gb120, 6, none⟩ = some (.string a0_6) := (blk_cell BK120.out 6).trans rfl
    have hcz16_7 : w3.cell? ⟨gb120, 7, none⟩ = some (.slice A0_7 l0_7.length c0_7) := (blk_cell BK120.out 7).trans rfl
    have hfz16_0 := blk_frozen BK120.out 0
    have hfz16_1 := blk_frozen BK120.out 1
    have hfz16_2 := blk_frozen BK120.out 2
    have hfz16_3 := blk_frozen BK120.out 3
    have hfz16_4 := blk_frozen BK120.out 4
    have hfz16_5 := blk_frozen BK120.out 5
    have hfz16_6 := blk_frozen BK120.out 6
    have hfz16_7 := blk_frozen BK120.out 7
    go_wp2_with (first | ((with_reducible refine gate_callee (f := 46) rfl ?_); refine goesL_ (some 5) rfl rfl Try.func46 (by kernel_rfl) rfl #[.int .i64 a0_0] rfl (by (try simp only [List.map_toArray, List.map_cons, List.map_nil]); first | done | rfl | (simp only [List.length_drop, List.length_take]; rfl)) ?_; (with_reducible refine (sumpref27_Word.calls a0_0 t121 _ A4.out).mono ?_); rintro e w17 ⟨rfl, hb⟩; refine ⟨_, rfl, ?_⟩; have n0_ := Aside0.mk (blk_below (g := gb120) (o := .cells #[.int .i64 a0_0, .int .i64 a0_1, .int .i64 a0_2, .int .i64 a0_3, .int .i64 a0_4, .string a0_5, .string a0_6, .slice A0_7 l0_7.length c0_7] 40 (0, 0)) (by (with_reducible repeat (first | refine blk_drewN ?_ _ | refine blk_drew ?_ | refine blk_alloc ?_ _)); exact BK120.out) hb); have n1_ := Aside0.mk (below_step (by repeat (first | (with_reducible first | exact HB.out | apply below_alloc | apply pw_below_drewN | apply below_drew1 | refine below_set ?_ GE120.out) | exact HB.out)) hb); clear BK120; clear HB; have BK120 := n0_; have HB := n1_; clear n0_ n1_; (try clear hb); (try clear hb2); (try clear hk); (try clear hi); have hcz18_0 : w17.cell? ⟨gb120, 0, none⟩ = some (.int .i64 a0_0) := (blk_cell BK120.out 0).trans rfl; have hcz18_1 : w17.cell? ⟨gb120, 1, none⟩ = some (.int .i64 a0_1) := (blk_cell BK120.out 1).trans rfl; have hcz18_2 : w17.cell? ⟨gb120, 2, none⟩ = some (.int .i64 a0_2) := (blk_cell BK120.out 2).trans rfl; have hcz18_3 : w17.cell? ⟨gb120, 3, none⟩ = some (.int .i64 a0_3) := (blk_cell BK120.out 3).trans rfl; have hcz18_4 : w17.cell? ⟨gb120, 4, none⟩ = some (.int .i64 a0_4) := (blk_cell BK120.out 4).trans rfl; have hcz18_5 : w17.cell? ⟨gb120, 5, none⟩ = some (.string a0_5) := (blk_cell BK120.out 5).trans rfl; have hcz18_6 : w17.cell? ⟨gb120, 6, none⟩ = some (.string a0_6) := (blk_cell BK120.out 6).trans rfl; have hcz18_7 : w17.cell? ⟨gb120, 7, none⟩ = some (.slice A0_7 l0_7.length c0_7) := (blk_cell BK120.out 7).trans rfl; have hfz18_0 := blk_frozen BK120.out 0; have hfz18_1 := blk_frozen BK120.out 1; have hfz18_2 := blk_frozen BK120.out 2; have hfz18_3 := blk_frozen BK120.out 3; have hfz18_4 := blk_frozen BK120.out 4; have hfz18_5 := blk_frozen BK120.out 5; have hfz18_6 := blk_frozen BK120.out 6; have hfz18_7 := blk_frozen BK120.out 7))
    go_meet
    case rel => exact ⟨_, (false), (by first | rfl | (simp; done) | (simp [*]; done)), H', ⟨by first | omega | exact Nat.le_refl _⟩, ⟨by (with_reducible repeat (first | refine blk_drewN ?_ _ | refine blk_drew ?_ | refine blk_alloc ?_ _)); exact BK120.out⟩, ⟨by repeat (first | (with_reducible first | exact HB.out | apply below_alloc | apply pw_below_drewN | apply below_drew1 | refine below_set ?_ GE120.out) | exact HB.out)⟩⟩
 case rest =>
  clear HC2
  try clear p2
  try clear c4
  try clear c5
  try clear c5b0
  try clear c5b1
  try clear c8
  try clear c8b0
  try clear c8b1
  try clear c9
  try clear c9b0
  try clear hcz10_0
  try clear hcz10_1
  try clear hcz10_2
  try clear hcz10_3
  try clear hcz10_4
  try clear hcz10_5
  try clear hcz10_6
  try clear hcz10_7
  try clear hcz12_0
  try clear hcz12_1
  try clear hcz12_2
  try clear hcz12_3
  try clear hcz12_4
  try clear hcz12_5
  try clear hcz12_6
  try clear hcz12_7
  try clear hcz13_0
  try clear hcz13_1
  try clear hcz13_2
  try clear hcz13_3
  try clear hcz13_4
  try clear hcz13_5
  try clear hcz13_6
  try clear hcz13_7
  try clear hcz15_0
  try clear hcz15_1
  try clear hcz15_2
  try clear hcz15_3
  try clear hcz15_4
  try clear hcz15_5
  try clear hcz15_6
  try clear hcz15_7
  try clear hcz16_0
  try clear hcz16_1
  try clear hcz16_2
  try clear hcz16_3
  try clear hcz16_4
  try clear hcz16_5
  try clear hcz16_6
  try clear hcz16_7
  try clear hcz18_0
  try clear hcz18_1
  try clear hcz18_2
  try clear hcz18_3
  try clear hcz18_4
  try clear hcz18_5
  try clear hcz18_6
  try clear hcz18_7
  try clear hcz6_0
  try clear hcz6_1
  try clear hcz6_2
  try clear hcz6_3
  try clear hcz6_4
  try clear hcz6_5
  try clear hcz6_6
  try clear hcz6_7
  try clear hfz10_0
  try clear hfz10_1
  try clear hfz10_2
  try clear hfz10_3
  try clear hfz10_4
  try clear hfz10_5
  try clear hfz10_6
  try clear hfz10_7
  try clear hfz12_0
  try clear hfz12_1
  try clear hfz12_2
  try clear hfz12_3
  try clear hfz12_4
  try clear hfz12_5
  try clear hfz12_6
  try clear hfz12_7
  try clear hfz13_0
  try clear hfz13_1
  try clear hfz13_2
  try clear hfz13_3
  try clear hfz13_4
  try clear hfz13_5
  try clear hfz13_6
  try clear hfz13_7
  try clear hfz15_0
  try clear hfz15_1
  try clear hfz15_2
  try clear hfz15_3
  try clear hfz15_4
  try clear hfz15_5
  try clear hfz15_6
  try clear hfz15_7
  try clear hfz16_0
  try clear hfz16_1
  try clear hfz16_2
  try clear hfz16_3
  try clear hfz16_4
  try clear hfz16_5
  try clear hfz16_6
  try clear hfz16_7
  try clear hfz18_0
  try clear hfz18_1
  try clear hfz18_2
  try clear hfz18_3
  try clear hfz18_4
  try clear hfz18_5
  try clear hfz18_6
  try clear hfz18_7
  try clear hfz6_0
  try clear hfz6_1
  try clear hfz6_2
  try clear hfz6_3
  try clear hfz6_4
  try clear hfz6_5
  try clear hfz6_6
  try clear hfz6_7
  obtain ⟨kq, x21_1, rfl, HA, HJ1, BK120, HB⟩ := hcut
  cases kq with
  | zero => exact absurd HA.out (by simp [sumpref27_Check.j0])
  | succ kj1 =>
   have H := HA.out
   clear HA
   simp only [sumpref27_Check.j0] at H
   by_cases c19 : x21_1 = true
   ·subst c19
    have H1 : (some 22) = some r := by rw [if_pos rfl] at H; exact H
    clear H
    have H := H1
    clear H1
    obtain rfl := Option.some.inj H
    go_wp2
    go_ret
    exact ⟨by first | rfl | (simp [errW_none, errW_some] <;> rfl) | (simp [*, errW_none, errW_some] <;> rfl) | (refine L.ret_bool ?_; rw [Bool.eq_iff_iff]; simp; done) | (refine L.ret_bool ?_; rw [Bool.eq_iff_iff]; simp [*]; done), by repeat (first | (with_reducible first | exact HB.out | apply below_alloc | apply pw_below_drewN | apply below_drew1 | refine below_set ?_ GE120.out) | exact HB.out)⟩
   ·replace c19 := Bool.eq_false_iff.mpr c19
    subst c19
    have H1 : (if a0_0 = 3 then (if a0_3 < 0 then (sumpref27_Check.j1 kj1 true a0_0 a0_1 a0_2 a0_3 a0_4 a0_5 a0_6 l0_7) else (if a0_3 > 1024 then (sumpref27_Check.j1 kj1 true a0_0 a0_1 a0_2 a0_3 a0_4 a0_5 a0_6 l0_7) else (if a0_0 = 15 then (sumpref27_Check.j1 kj1 (decide (a0_3 < 0)) a0_0 a0_1 a0_2 a0_3 a0_4 a0_5 a0_6 l0_7) else (sumpref27_Check.j1 kj1 false a0_0 a0_1 a0_2 a0_3 a0_4 a0_5 a0_6 l0_7)))) else (if a0_0 = 5 then (if a0_3 < 0 then (sumpref27_Check.j1 kj1 true a0_0 a0_1 a0_2 a0_3 a0_4 a0_5 a0_6 l0_7) else (if a0_3 > 1024 then (sumpref27_Check.j1 kj1 true a0_0 a0_1 a0_2 a0_3 a0_4 a0_5 a0_6 l0_7) else (if a0_0 = 15 then (sumpref27_Check.j1 kj1 (decide (a0_3 < 0)) a0_0 a0_1 a0_2 a0_3 a0_4 a0_5 a0_6 l0_7) else (sumpref27_Check.j1 kj1 false a0_0 a0_1 a0_2 a0_3 a0_4 a0_5 a0_6 l0_7)))) else (if a0_0 = 15 then (sumpref27_Check.j1 kj1 (decide (a0_3 < 0)) a0_0 a0_1 a0_2 a0_3 a0_4 a0_5 a0_6 l0_7) else (sumpref27_Check.j1 kj1 false a0_0 a0_1 a0_2 a0_3 a0_4 a0_5 a0_6 l0_7)))) = some r := by rw [if_neg (show ¬ (false = true) by decide)] at H; exact H
    clear H
    have H := H1
    clear H1
    have HC20 := Aside0.mk H
    clear H
    go_upto_region 3 with (fail)
    go_cut [49] (fun v49 wc => ∃ (kq : Nat) (x49_19 : Bool), v49 = .bool x49_19 ∧ Aside0 (sumpref27_Check.j1 kq x49_19 a0_0 a0_1 a0_2 a0_3 a0_4 a0_5 a0_6 l0_7 = some r) ∧ Aside0 (kq ≤ kj1) ∧ Aside0 (wc.heap[gb120]? = some (.cells #[.int .i64 a0_0, .int .i64 a0_1, .int .i64 a0_2, .int .i64 a0_3, .int .i64 a0_4, .string a0_5, .string a0_6, (.slice A0_7 l0_7.length c0_7)] 40 (0, 0))) ∧ Aside0 (Below w.heap.size w wc))
    case first =>
     have H := HC20.out
     clear HC20
     by_cases c21 : a0_0 = 3
     ·rw [if_pos c21] at H
      have c21b0 : (a0_0 == 3) = true := beq_iff_eq.mpr c21
      have c21b1 : (a0_0 != 3) = false := bne_eq_false_iff_eq.mpr c21
      clear c21
      (first | rw [c21b0] | (simp only [i64_w, i32_w]; rw [c21b0]) | skip)
      by_cases c22 : a0_3 < 0
      ·rw [if_pos c22] at H
       have c22b0 : decide (a0_3 < 0) = true := decide_eq_true c22
       clear c22
       have H' := Aside0.mk H
       clear H
       have hcz23_0 : wc.cell? ⟨gb120, 0, none⟩ = some (.int .i64 a0_0) := (blk_cell BK120.out 0).trans rfl
       have hcz23_1 : wc.cell? ⟨gb120, 1, none⟩ = some (.int .i64 a0_1) := (blk_cell BK120.out 1).trans rfl
       have hcz23_2 : wc.cell? ⟨gb120, 2, none⟩ = some (.int .i64 a0_2) := (blk_cell BK120.out 2).trans rfl
       have hcz23_3 : wc.cell? ⟨gb120, 3, none⟩ = some (.int .i64 a0_3) := (blk_cell BK120.out 3).trans rfl
       have hcz23_4 : wc.cell? ⟨gb120, 4, none⟩ = some (.int .i64 a0_4) := (blk_cell BK120.out 4).trans rfl
       have hcz23_5 : wc.cell? ⟨gb120, 5, none⟩ = some (.string a0_5) := (blk_cell BK120.out 5).trans rfl
       have hcz23_6 : wc.cell? ⟨gb120, 6, none⟩ = some (.string a0_6) := (blk_cell BK120.out 6).trans rfl
       have hcz23_7 : wc.cell? ⟨gb120, 7, none⟩ = some (.slice A0_7 l0_7.length c0_7) := (blk_cell BK120.out 7).trans rfl
       have hfz23_0 := blk_frozen BK120.out 0
       have hfz23_1 := blk_frozen BK120.out 1
       have hfz23_2 := blk_frozen BK120.out 2
       have hfz23_3 := blk_frozen BK120.out 3
       have hfz23_4 := blk_frozen BK120.out 4
       have hfz23_5 := blk_frozen BK120.out 5
       have hfz23_6 := blk_frozen BK120.out 6
       have hfz23_7 := blk_frozen BK120.out 7
       go_wp2
       go_meet
       case rel => exact ⟨_, (true), (by first | rfl | (simp; done) | (simp [*]; done)), H', ⟨by have := HJ1.out; first | omega | exact Nat.le_refl _⟩, ⟨by (with_reducible repeat (first | refine blk_drewN ?_ _ | refine blk_drew ?_ | refine blk_alloc ?_ _)); exact BK120.out⟩, ⟨by repeat (first | (with_reducible first | exact HB.out | apply below_alloc | apply pw_below_drewN | apply below_drew1 | refine below_set ?_ GE120.out) | exact HB.out)⟩⟩
      ·rw [if_neg c22] at H
       have c22b0 : decide (a0_3 < 0) = false := decide_eq_false c22
       clear c22
       by_cases c24 : a0_3 > 1024
       ·rw [if_pos c24] at H
        have c24b0 : decide (1024 < a0_3) = true := decide_eq_true c24
        clear c24
        have H' := Aside0.mk H
        clear H
        have hcz25_0 : wc.cell? ⟨gb120, 0, none⟩ = some (.int .i64 a0_0) := (blk_cell BK120.out 0).trans rfl
        have hcz25_1 : wc.cell? ⟨gb120, 1, none⟩ = some (.int .i64 a0_1) := (blk_cell BK120.out 1).trans rfl
        have hcz25_2 : wc.cell? ⟨gb120, 2, none⟩ = some (.int .i64 a0_2) := (blk_cell BK120.out 2).trans rfl
        have hcz25_3 : wc.cell? ⟨gb120, 3, none⟩ = some (.int .i64 a0_3) := (blk_cell BK120.out 3).trans rfl
        have hcz25_4 : wc.cell? ⟨gb120, 4, none⟩ = some (.int .i64 a0_4) := (blk_cell BK120.out 4).trans rfl
        have hcz25_5 : wc.cell? ⟨gb120, 5, none⟩ = some (.string a0_5) := (blk_cell BK120.out 5).trans rfl
        have hcz25_6 : wc.cell? ⟨gb120, 6, none⟩ = some (.string a0_6) := (blk_cell BK120.out 6).trans rfl
        have hcz25_7 : wc.cell? ⟨gb120, 7, none⟩ = some (.slice A0_7 l0_7.length c0_7) := (blk_cell BK120.out 7).trans rfl
        have hfz25_0 := blk_frozen BK120.out 0
        have hfz25_1 := blk_frozen BK120.out 1
        have hfz25_2 := blk_frozen BK120.out 2
        have hfz25_3 := blk_frozen BK120.out 3
        have hfz25_4 := blk_frozen BK120.out 4
        have hfz25_5 := blk_frozen BK120.out 5
        have hfz25_6 := blk_frozen BK120.out 6
        have hfz25_7 := blk_frozen BK120.out 7
        go_wp2
        go_meet
        case rel => exact ⟨_, (true), (by first | rfl | (simp; done) | (simp [*]; done)), H', ⟨by have := HJ1.out; first | omega | exact Nat.le_refl _⟩, ⟨by (with_reducible repeat (first | refine blk_drewN ?_ _ | refine blk_drew ?_ | refine blk_alloc ?_ _)); exact BK120.out⟩, ⟨by repeat (first | (with_reducible first | exact HB.out | apply below_alloc | apply pw_below_drewN | apply below_drew1 | refine below_set ?_ GE120.out) | exact HB.out)⟩⟩
       ·rw [if_neg c24] at H
        have c24b0 : decide (1024 < a0_3) = false := decide_eq_false c24
        clear c24
        by_cases c26 : a0_0 = 15
        ·rw [if_pos c26] at H
         have c26b0 : (a0_0 == 15) = true := beq_iff_eq.mpr c26
         have c26b1 : (a0_0 != 15) = false := bne_eq_false_iff_eq.mpr c26
         clear c26
         have H' := Aside0.mk H
         clear H
         have hcz27_0 : wc.cell? ⟨gb120, 0, none⟩ = some (.int .i64 a0_0) := (blk_cell BK120.out 0).trans rfl
         have hcz27_1 : wc.cell? ⟨gb120, 1, none⟩ = some (.int .i64 a0_1) := (blk_cell BK120.out 1).trans rfl
         have hcz27_2 : wc.cell? ⟨gb120, 2, none⟩ = some (.int .i64 a0_2) := (blk_cell BK120.out 2).trans rfl
         have hcz27_3 : wc.cell? ⟨gb120, 3, none⟩ = some (.int .i64 a0_3) := (blk_cell BK120.out 3).trans rfl
         have hcz27_4 : wc.cell? ⟨gb120, 4, none⟩ = some (.int .i64 a0_4) := (blk_cell BK120.out 4).trans rfl
         have hcz27_5 : wc.cell? ⟨gb120, 5, none⟩ = some (.string a0_5) := (blk_cell BK120.out 5).trans rfl
         have hcz27_6 : wc.cell? ⟨gb120, 6, none⟩ = some (.string a0_6) := (blk_cell BK120.out 6).trans rfl
         have hcz27_7 : wc.cell? ⟨gb120, 7, none⟩ = some (.slice A0_7 l0_7.length c0_7) := (blk_cell BK120.out 7).trans rfl
         have hfz27_0 := blk_frozen BK120.out 0
         have hfz27_1 := blk_frozen BK120.out 1
         have hfz27_2 := blk_frozen BK120.out 2
         have hfz27_3 := blk_frozen BK120.out 3
         have hfz27_4 := blk_frozen BK120.out 4
         have hfz27_5 := blk_frozen BK120.out 5
         have hfz27_6 := blk_frozen BK120.out 6
         have hfz27_7 := blk_frozen BK120.out 7
         go_wp2
         go_meet
         case rel => exact ⟨_, (decide (a0_3 < 0)), (by first | rfl | (simp; done) | (simp [*]; done)), H', ⟨by have := HJ1.out; first | omega | exact Nat.le_refl _⟩, ⟨by (with_reducible repeat (first | refine blk_drewN ?_ _ | refine blk_drew ?_ | refine blk_alloc ?_ _)); exact BK120.out⟩, ⟨by repeat (first | (with_reducible first | exact HB.out | apply below_alloc | apply pw_below_drewN | apply below_drew1 | refine below_set ?_ GE120.out) | exact HB.out)⟩⟩
        ·rw [if_neg c26] at H
         have c26b0 : (a0_0 == 15) = false := beq_eq_false_iff_ne.mpr c26
         have c26b1 : (a0_0 != 15) = true := bne_iff_ne.mpr c26
         have H' := Aside0.mk H
         clear H
         have hcz28_0 : wc.cell? ⟨gb120, 0, none⟩ = some (.int .i64 a0_0) := (blk_cell BK120.out 0).trans rfl
         have hcz28_1 : wc.cell? ⟨gb120, 1, none⟩ = some (.int .i64 a0_1) := (blk_cell BK120.out 1).trans rfl
         have hcz28_2 : wc.cell? ⟨gb120, 2, none⟩ = some (.int .i64 a0_2) := (blk_cell BK120.out 2).trans rfl
         have hcz28_3 : wc.cell? ⟨gb120, 3, none⟩ = some (.int .i64 a0_3) := (blk_cell BK120.out 3).trans rfl
         have hcz28_4 : wc.cell? ⟨gb120, 4, none⟩ = some (.int .i64 a0_4) := (blk_cell BK120.out 4).trans rfl
         have hcz28_5 : wc.cell? ⟨gb120, 5, none⟩ = some (.string a0_5) := (blk_cell BK120.out 5).trans rfl
         have hcz28_6 : wc.cell? ⟨gb120, 6, none⟩ = some (.string a0_6) := (blk_cell BK120.out 6).trans rfl
         have hcz28_7 : wc.cell? ⟨gb120, 7, none⟩ = some (.slice A0_7 l0_7.length c0_7) := (blk_cell BK120.out 7).trans rfl
         have hfz28_0 := blk_frozen BK120.out 0
         have hfz28_1 := blk_frozen BK120.out 1
         have hfz28_2 := blk_frozen BK120.out 2
         have hfz28_3 := blk_frozen BK120.out 3
         have hfz28_4 := blk_frozen BK120.out 4
         have hfz28_5 := blk_frozen BK120.out 5
         have hfz28_6 := blk_frozen BK120.out 6
         have hfz28_7 := blk_frozen BK120.out 7
         go_wp2
         go_meet
         case rel => exact ⟨_, (false), (by first | rfl | (simp; done) | (simp [*]; done)), H', ⟨by have := HJ1.out; first | omega | exact Nat.le_refl _⟩, ⟨by (with_reducible repeat (first | refine blk_drewN ?_ _ | refine blk_drew ?_ | refine blk_alloc ?_ _)); exact BK120.out⟩, ⟨by repeat (first | (with_reducible first | exact HB.out | apply below_alloc | apply pw_below_drewN | apply below_drew1 | refine below_set ?_ GE120.out) | exact HB.out)⟩⟩
     ·rw [if_neg c21] at H
      have c21b0 : (a0_0 == 3) = false := beq_eq_false_iff_ne.mpr c21
      have c21b1 : (a0_0 != 3) = true := bne_iff_ne.mpr c21
      (first | rw [c21b0] | (simp only [i64_w, i32_w]; rw [c21b0]) | skip)
      by_cases c29 : a0_0 = 5
      ·rw [if_pos c29] at H
       have c29b0 : (a0_0 == 5) = true := beq_iff_eq.mpr c29
       have c29b1 : (a0_0 != 5) = false := bne_eq_false_iff_eq.mpr c29
       clear c29
       by_cases c30 : a0_3 < 0
       ·rw [if_pos c30] at H
        have c30b0 : decide (a0_3 < 0) = true := decide_eq_true c30
        clear c30
        have H' := Aside0.mk H
        clear H
        have hcz31_0 : wc.cell? ⟨gb120, 0, none⟩ = some (.int .i64 a0_0) := (blk_cell BK120.out 0).trans rfl
        have hcz31_1 : wc.cell? ⟨gb120, 1, none⟩ = some (.int .i64 a0_1) := (blk_cell BK120.out 1).trans rfl
        have hcz31_2 : wc.cell? ⟨gb120, 2, none⟩ = some (.int .i64 a0_2) := (blk_cell BK120.out 2).trans rfl
        have hcz31_3 : wc.cell? ⟨gb120, 3, none⟩ = some (.int .i64 a0_3) := (blk_cell BK120.out 3).trans rfl
        have hcz31_4 : wc.cell? ⟨gb120, 4, none⟩ = some (.int .i64 a0_4) := (blk_cell BK120.out 4).trans rfl
        have hcz31_5 : wc.cell? ⟨gb120, 5, none⟩ = some (.string a0_5) := (blk_cell BK120.out 5).trans rfl
        have hcz31_6 : wc.cell? ⟨gb120, 6, none⟩ = some (.string a0_6) := (blk_cell BK120.out 6).trans rfl
        have hcz31_7 : wc.cell? ⟨gb120, 7, none⟩ = some (.slice A0_7 l0_7.length c0_7) := (blk_cell BK120.out 7).trans rfl
        have hfz31_0 := blk_frozen BK120.out 0
        have hfz31_1 := blk_frozen BK120.out 1
        have hfz31_2 := blk_frozen BK120.out 2
        have hfz31_3 := blk_frozen BK120.out 3
        have hfz31_4 := blk_frozen BK120.out 4
        have hfz31_5 := blk_frozen BK120.out 5
        have hfz31_6 := blk_frozen BK120.out 6
        have hfz31_7 := blk_frozen BK120.out 7
        go_wp2
        go_meet
        case rel => exact ⟨_, (true), (by first | rfl | (simp; done) | (simp [*]; done)), H', ⟨by have := HJ1.out; first | omega | exact Nat.le_refl _⟩, ⟨by (with_reducible repeat (first | refine blk_drewN ?_ _ | refine blk_drew ?_ | refine blk_alloc ?_ _)); exact BK120.out⟩, ⟨by repeat (first | (with_reducible first | exact HB.out | apply below_alloc | apply pw_below_drewN | apply below_drew1 | refine below_set ?_ GE120.out) | exact HB.out)⟩⟩
       ·rw [if_neg c30] at H
        have c30b0 : decide (a0_3 < 0) = false := decide_eq_false c30
        clear c30
        by_cases c32 : a0_3 > 1024
        ·rw [if_pos c32] at H
         have c32b0 : decide (1024 < a0_3) = true := decide_eq_true c32
         clear c32
         have H' := Aside0.mk H
         clear H
         have hcz33_0 : wc.cell? ⟨gb120, 0, none⟩ = some (.int .i64 a0_0) := (blk_cell BK120.out 0).trans rfl
         have hcz33_1 : wc.cell? ⟨gb120, 1, none⟩ = some (.int .i64 a0_1) := (blk_cell BK120.out 1).trans rfl
         have hcz33_2 : wc.cell? ⟨gb120, 2, none⟩ = some (.int .i64 a0_2) := (blk_cell BK120.out 2).trans rfl
         have hcz33_3 : wc.cell? ⟨gb120, 3, none⟩ = some (.int .i64 a0_3) := (blk_cell BK120.out 3).trans rfl
         have hcz33_4 : wc.cell? ⟨gb120, 4, none⟩ = some (.int .i64 a0_4) := (blk_cell BK120.out 4).trans rfl
         have hcz33_5 : wc.cell? ⟨gb120, 5, none⟩ = some (.string a0_5) := (blk_cell BK120.out 5).trans rfl
         have hcz33_6 : wc.cell? ⟨gb120, 6, none⟩ = some (.string a0_6) := (blk_cell BK120.out 6).trans rfl
         have hcz33_7 : wc.cell? ⟨gb120, 7, none⟩ = some (.slice A0_7 l0_7.length c0_7) := (blk_cell BK120.out 7).trans rfl
         have hfz33_0 := blk_frozen BK120.out 0
         have hfz33_1 := blk_frozen BK120.out 1
         have hfz33_2 := blk_frozen BK120.out 2
         have hfz33_3 := blk_frozen BK120.out 3
         have hfz33_4 := blk_frozen BK120.out 4
         have hfz33_5 := blk_frozen BK120.out 5
         have hfz33_6 := blk_frozen BK120.out 6
         have hfz33_7 := blk_frozen BK120.out 7
         go_wp2
         go_meet
         case rel => exact ⟨_, (true), (by first | rfl | (simp; done) | (simp [*]; done)), H', ⟨by have := HJ1.out; first | omega | exact Nat.le_refl _⟩, ⟨by (with_reducible repeat (first | refine blk_drewN ?_ _ | refine blk_drew ?_ | refine blk_alloc ?_ _)); exact BK120.out⟩, ⟨by repeat (first | (with_reducible first | exact HB.out | apply below_alloc | apply pw_below_drewN | apply below_drew1 | refine below_set ?_ GE120.out) | exact HB.out)⟩⟩
        ·rw [if_neg c32] at H
         have c32b0 : decide (1024 < a0_3) = false := decide_eq_false c32
         clear c32
         by_cases c34 : a0_0 = 15
         ·rw [if_pos c34] at H
          have c34b0 : (a0_0 == 15) = true := beq_iff_eq.mpr c34
          have c34b1 : (a0_0 != 15) = false := bne_eq_false_iff_eq.mpr c34
          clear c34
          have H' := Aside0.mk H
          clear H
          have hcz35_0 : wc.cell? ⟨gb120, 0, none⟩ = some (.int .i64 a0_0) := (blk_cell BK120.out 0).trans rfl
          have hcz35_1 : wc.cell? ⟨gb120, 1, none⟩ = some (.int .i64 a0_1) := (blk_cell BK120.out 1).trans rfl
          have hcz35_2 : wc.cell? ⟨gb120, 2, none⟩ = some (.int .i64 a0_2) := (blk_cell BK120.out 2).trans rfl
          have hcz35_3 : wc.cell? ⟨gb120, 3, none⟩ = some (.int .i64 a0_3) := (blk_cell BK120.out 3).trans rfl
          have hcz35_4 : wc.cell? ⟨gb120, 4, none⟩ = some (.int .i64 a0_4) := (blk_cell BK120.out 4).trans rfl
          have hcz35_5 : wc.cell? ⟨gb120, 5, none⟩ = some (.string a0_5) := (blk_cell BK120.out 5).trans rfl
          have hcz35_6 : wc.cell? ⟨gb120, 6, none⟩ = some (.string a0_6) := (blk_cell BK120.out 6).trans rfl
          have hcz35_7 : wc.cell? ⟨gb120, 7, none⟩ = some (.slice A0_7 l0_7.length c0_7) := (blk_cell BK120.out 7).trans rfl
          have hfz35_0 := blk_frozen BK120.out 0
          have hfz35_1 := blk_frozen BK120.out 1
          have hfz35_2 := blk_frozen BK120.out 2
          have hfz35_3 := blk_frozen BK120.out 3
          have hfz35_4 := blk_frozen BK120.out 4
          have hfz35_5 := blk_frozen BK120.out 5
          have hfz35_6 := blk_frozen BK120.out 6
          have hfz35_7 := blk_frozen BK120.out 7
          go_wp2
          go_meet
          case rel => exact ⟨_, (decide (a0_3 < 0)), (by first | rfl | (simp; done) | (simp [*]; done)), H', ⟨by have := HJ1.out; first | omega | exact Nat.le_refl _⟩, ⟨by (with_reducible repeat (first | refine blk_drewN ?_ _ | refine blk_drew ?_ | refine blk_alloc ?_ _)); exact BK120.out⟩, ⟨by repeat (first | (with_reducible first | exact HB.out | apply below_alloc | apply pw_below_drewN | apply below_drew1 | refine below_set ?_ GE120.out) | exact HB.out)⟩⟩
         ·rw [if_neg c34] at H
          have c34b0 : (a0_0 == 15) = false := beq_eq_false_iff_ne.mpr c34
          have c34b1 : (a0_0 != 15) = true := bne_iff_ne.mpr c34
          have H' := Aside0.mk H
          clear H
          have hcz36_0 : wc.cell? ⟨gb120, 0, none⟩ = some (.int .i64 a0_0) := (blk_cell BK120.out 0).trans rfl
          have hcz36_1 : wc.cell? ⟨gb120, 1, none⟩ = some (.int .i64 a0_1) := (blk_cell BK120.out 1).trans rfl
          have hcz36_2 : wc.cell? ⟨gb120, 2, none⟩ = some (.int .i64 a0_2) := (blk_cell BK120.out 2).trans rfl
          have hcz36_3 : wc.cell? ⟨gb120, 3, none⟩ = some (.int .i64 a0_3) := (blk_cell BK120.out 3).trans rfl
          have hcz36_4 : wc.cell? ⟨gb120, 4, none⟩ = some (.int .i64 a0_4) := (blk_cell BK120.out 4).trans rfl
          have hcz36_5 : wc.cell? ⟨gb120, 5, none⟩ = some (.string a0_5) := (blk_cell BK120.out 5).trans rfl
          have hcz36_6 : wc.cell? ⟨gb120, 6, none⟩ = some (.string a0_6) := (blk_cell BK120.out 6).trans rfl
          have hcz36_7 : wc.cell? ⟨gb120, 7, none⟩ = some (.slice A0_7 l0_7.length c0_7) := (blk_cell BK120.out 7).trans rfl
          have hfz36_0 := blk_frozen BK120.out 0
          have hfz36_1 := blk_frozen BK120.out 1
          have hfz36_2 := blk_frozen BK120.out 2
          have hfz36_3 := blk_frozen BK120.out 3
          have hfz36_4 := blk_frozen BK120.out 4
          have hfz36_5 := blk_frozen BK120.out 5
          have hfz36_6 := blk_frozen BK120.out 6
          have hfz36_7 := blk_frozen BK120.out 7
          go_wp2
          go_meet
          case rel => exact ⟨_, (false), (by first | rfl | (simp; done) | (simp [*]; done)), H', ⟨by have := HJ1.out; first | omega | exact Nat.le_refl _⟩, ⟨by (with_reducible repeat (first | refine blk_drewN ?_ _ | refine blk_drew ?_ | refine blk_alloc ?_ _)); exact BK120.out⟩, ⟨by repeat (first | (with_reducible first | exact HB.out | apply below_alloc | apply pw_below_drewN | apply below_drew1 | refine below_set ?_ GE120.out) | exact HB.out)⟩⟩
      ·rw [if_neg c29] at H
       have c29b0 : (a0_0 == 5) = false := beq_eq_false_iff_ne.mpr c29
       have c29b1 : (a0_0 != 5) = true := bne_iff_ne.mpr c29
       by_cases c37 : a0_0 = 15
       ·rw [if_pos c37] at H
        have c37b0 : (a0_0 == 15) = true := beq_iff_eq.mpr c37
        have c37b1 : (a0_0 != 15) = false := bne_eq_false_iff_eq.mpr c37
        clear c37
        have H' := Aside0.mk H
        clear H
        have hcz38_0 : wc.cell? ⟨gb120, 0, none⟩ = some (.int .i64 a0_0) := (blk_cell BK120.out 0).trans rfl
        have hcz38_1 : wc.cell? ⟨gb120, 1, none⟩ = some (.int .i64 a0_1) := (blk_cell BK120.out 1).trans rfl
        have hcz38_2 : wc.cell? ⟨gb120, 2, none⟩ = some (.int .i64 a0_2) := (blk_cell BK120.out 2).trans rfl
        have hcz38_3 : wc.cell? ⟨gb120, 3, none⟩ = some (.int .i64 a0_3) := (blk_cell BK120.out 3).trans rfl
        have hcz38_4 : wc.cell? ⟨gb120, 4, none⟩ = some (.int .i64 a0_4) := (blk_cell BK120.out 4).trans rfl
        have hcz38_5 : wc.cell? ⟨gb120, 5, none⟩ = some (.string a0_5) := (blk_cell BK120.out 5).trans rfl
        have hcz38_6 : wc.cell? ⟨gb120, 6, none⟩ = some (.string a0_6) := (blk_cell BK120.out 6).trans rfl
        have hcz38_7 : wc.cell? ⟨gb120, 7, none⟩ = some (.slice A0_7 l0_7.length c0_7) := (blk_cell BK120.out 7).trans rfl
        have hfz38_0 := blk_frozen BK120.out 0
        have hfz38_1 := blk_frozen BK120.out 1
        have hfz38_2 := blk_frozen BK120.out 2
        have hfz38_3 := blk_frozen BK120.out 3
        have hfz38_4 := blk_frozen BK120.out 4
        have hfz38_5 := blk_frozen BK120.out 5
        have hfz38_6 := blk_frozen BK120.out 6
        have hfz38_7 := blk_frozen BK120.out 7
        go_wp2
        go_meet
        case rel => exact ⟨_, (decide (a0_3 < 0)), (by first | rfl | (simp; done) | (simp [*]; done)), H', ⟨by have := HJ1.out; first | omega | exact Nat.le_refl _⟩, ⟨by (with_reducible repeat (first | refine blk_drewN ?_ _ | refine blk_drew ?_ | refine blk_alloc ?_ _)); exact BK120.out⟩, ⟨by repeat (first | (with_reducible first | exact HB.out | apply below_alloc | apply pw_below_drewN | apply below_drew1 | refine below_set ?_ GE120.out) | exact HB.out)⟩⟩
       ·rw [if_neg c37] at H
        have c37b0 : (a0_0 == 15) = false := beq_eq_false_iff_ne.mpr c37
        have c37b1 : (a0_0 != 15) = true := bne_iff_ne.mpr c37
        have H' := Aside0.mk H
        clear H
        have hcz39_0 : wc.cell? ⟨gb120, 0, none⟩ = some (.int .i64 a0_0) := (blk_cell BK120.out 0).trans rfl
        have hcz39_1 : wc.cell? ⟨gb120, 1, none⟩ = some (.int .i64 a0_1) := (blk_cell BK120.out 1).trans rfl
        have hcz39_2 : wc.cell? ⟨gb120, 2, none⟩ = some (.int .i64 a0_2) := (blk_cell BK120.out 2).trans rfl
        have hcz39_3 : wc.cell? ⟨gb120, 3, none⟩ = some (.int .i64 a0_3) := (blk_cell BK120.out 3).trans rfl
        have hcz39_4 : wc.cell? ⟨gb120, 4, none⟩ = some (.int .i64 a0_4) := (blk_cell BK120.out 4).trans rfl
        have hcz39_5 : wc.cell? ⟨gb120, 5, none⟩ = some (.string a0_5) := (blk_cell BK120.out 5).trans rfl
        have hcz39_6 : wc.cell? ⟨gb120, 6, none⟩ = some (.string a0_6) := (blk_cell BK120.out 6).trans rfl
        have hcz39_7 : wc.cell? ⟨gb120, 7, none⟩ = some (.slice A0_7 l0_7.length c0_7) := (blk_cell BK120.out 7).trans rfl
        have hfz39_0 := blk_frozen BK120.out 0
        have hfz39_1 := blk_frozen BK120.out 1
        have hfz39_2 := blk_frozen BK120.out 2
        have hfz39_3 := blk_frozen BK120.out 3
        have hfz39_4 := blk_frozen BK120.out 4
        have hfz39_5 := blk_frozen BK120.out 5
        have hfz39_6 := blk_frozen BK120.out 6
        have hfz39_7 := blk_frozen BK120.out 7
        go_wp2
        go_meet
        case rel => exact ⟨_, (false), (by first | rfl | (simp; done) | (simp [*]; done)), H', ⟨by have := HJ1.out; first | omega | exact Nat.le_refl _⟩, ⟨by (with_reducible repeat (first | refine blk_drewN ?_ _ | refine blk_drew ?_ | refine blk_alloc ?_ _)); exact BK120.out⟩, ⟨by repeat (first | (with_reducible first | exact HB.out | apply below_alloc | apply pw_below_drewN | apply below_drew1 | refine below_set ?_ GE120.out) | exact HB.out)⟩⟩
    case rest =>
     clear HC20
     try clear c1
     try clear c2
     try clear p2
     try clear c3
     try clear c4
     try clear c5
     try clear c5b0
     try clear c5b1
     try clear c8
     try clear c8b0
     try clear c8b1
     try clear c9
     try clear c9b0
     try clear c19
     try clear c21
     try clear c21b0
     try clear c21b1
     try clear c22
     try clear c22b0
     try clear c24
     try clear c24b0
     try clear c26
     try clear c26b0
     try clear c26b1
     try clear c29
     try clear c29b0
     try clear c29b1
     try clear c30
     try clear c30b0
     try clear c32
     try clear c32b0
     try clear c34
     try clear c34b0
     try clear c34b1
     try clear c37
     try clear c37b0
     try clear c37b1
     try clear hcz10_0
     try clear hcz10_1
     try clear hcz10_2
     try clear hcz10_3
     try clear hcz10_4
     try clear hcz10_5
     try clear hcz10_6
     try clear hcz10_7
     try clear hcz12_0
     try clear hcz12_1
     try clear hcz12_2
     try clear hcz12_3
     try clear hcz12_4
     try clear hcz12_5
     try clear hcz12_6
     try clear hcz12_7
     try clear hcz13_0
     try clear hcz13_1
     try clear hcz13_2
     try clear hcz13_3
     try clear hcz13_4
     try clear hcz13_5
     try clear hcz13_6
     try clear hcz13_7
     try clear hcz15_0
     try clear hcz15_1
     try clear hcz15_2
     try clear hcz15_3
     try clear hcz15_4
     try clear hcz15_5
     try clear hcz15_6
     try clear hcz15_7
     try clear hcz16_0
     try clear hcz16_1
     try clear hcz16_2
     try clear hcz16_3
     try clear hcz16_4
     try clear hcz16_5
     try clear hcz16_6
     try clear hcz16_7
     try clear hcz18_0
     try clear hcz18_1
     try clear hcz18_2
     try clear hcz18_3
     try clear hcz18_4
     try clear hcz18_5
     try clear hcz18_6
     try clear hcz18_7
     try clear hcz23_0
     try clear hcz23_1
     try clear hcz23_2
     try clear hcz23_3
     try clear hcz23_4
     try clear hcz23_5
     try clear hcz23_6
     try clear hcz23_7
     try clear hcz25_0
     try clear hcz25_1
     try clear hcz25_2
     try clear hcz25_3
     try clear hcz25_4
     try clear hcz25_5
     try clear hcz25_6
     try clear hcz25_7
     try clear hcz27_0
     try clear hcz27_1
     try clear hcz27_2
     try clear hcz27_3
     try clear hcz27_4
     try clear hcz27_5
     try clear hcz27_6
     try clear hcz27_7
     try clear hcz28_0
     try clear hcz28_1
     try clear hcz28_2
     try clear hcz28_3
     try clear hcz28_4
     try clear hcz28_5
     try clear hcz28_6
     try clear hcz28_7
     try clear hcz31_0
     try clear hcz31_1
     try clear hcz31_2
     try clear hcz31_3
     try clear hcz31_4
     try clear hcz31_5
     try clear hcz31_6
     try clear hcz31_7
     try clear hcz33_0
     try clear hcz33_1
     try clear hcz33_2
     try clear hcz33_3
     try clear hcz33_4
     try clear hcz33_5
     try clear hcz33_6
     try clear hcz33_7
     try clear hcz35_0
     try clear hcz35_1
     try clear hcz35_2
     try clear hcz35_3
     try clear hcz35_4
     try clear hcz35_5
     try clear hcz35_6
     try clear hcz35_7
     try clear hcz36_0
     try clear hcz36_1
     try clear hcz36_2
     try clear hcz36_3
     try clear hcz36_4
     try clear hcz36_5
     try clear hcz36_6
     try clear hcz36_7
     try clear hcz38_0
     try clear hcz38_1
     try clear hcz38_2
     try clear hcz38_3
     try clear hcz38_4
     try clear hcz38_5
     try clear hcz38_6
     try clear hcz38_7
     try clear hcz39_0
     try clear hcz39_1
     try clear hcz39_2
     try clear hcz39_3
     try clear hcz39_4
     try clear hcz39_5
     try clear hcz39_6
     try clear hcz39_7
     try clear hcz6_0
     try clear hcz6_1
     try clear hcz6_2
     try clear hcz6_3
     try clear hcz6_4
     try clear hcz6_5
     try clear hcz6_6
     try clear hcz6_7
     try clear hfz10_0
     try clear hfz10_1
     try clear hfz10_2
     try clear hfz10_3
     try clear hfz10_4
     try clear hfz10_5
     try clear hfz10_6
     try clear hfz10_7
     try clear hfz12_0
     try clear hfz12_1
     try clear hfz12_2
     try clear hfz12_3
     try clear hfz12_4
     try clear hfz12_5
     try clear hfz12_6
     try clear hfz12_7
     try clear hfz13_0
     try clear hfz13_1
     try clear hfz13_2
     try clear hfz13_3
     try clear hfz13_4
     try clear hfz13_5
     try clear hfz13_6
     try clear hfz13_7
     try clear hfz15_0
     try clear hfz15_1
     try clear hfz15_2
     try clear hfz15_3
     try clear hfz15_4
     try clear hfz15_5
     try clear hfz15_6
     try clear hfz15_7
     try clear hfz16_0
     try clear hfz16_1
     try clear hfz16_2
     try clear hfz16_3
     try clear hfz16_4
     try clear hfz16_5
     try clear hfz16_6
     try clear hfz16_7
     try clear hfz18_0
     try clear hfz18_1
     try clear hfz18_2
     try clear hfz18_3
     try clear hfz18_4
     try clear hfz18_5
     try clear hfz18_6
     try clear hfz18_7
     try clear hfz23_0
     try clear hfz23_1
     try clear hfz23_2
     try clear hfz23_3
     try clear hfz23_4
     try clear hfz23_5
     try clear hfz23_6
     try clear hfz23_7
     try clear hfz25_0
     try clear hfz25_1
     try clear hfz25_2
     try clear hfz25_3
     try clear hfz25_4
     try clear hfz25_5
     try clear hfz25_6
     try clear hfz25_7
     try clear hfz27_0
     try clear hfz27_1
     try clear hfz27_2
     try clear hfz27_3
     try clear hfz27_4
     try clear hfz27_5
     try clear hfz27_6
     try clear hfz27_7
     try clear hfz28_0
     try clear hfz28_1
     try clear hfz28_2
     try clear hfz28_3
     try clear hfz28_4
     try clear hfz28_5
     try clear hfz28_6
     try clear hfz28_7
     try clear hfz31_0
     try clear hfz31_1
     try clear hfz31_2
     try clear hfz31_3
     try clear hfz31_4
     try clear hfz31_5
     try clear hfz31_6
     try clear hfz31_7
     try clear hfz33_0
     try clear hfz33_1
     try clear hfz33_2
     try clear hfz33_3
     try clear hfz33_4
     try clear hfz33_5
     try clear hfz33_6
     try clear hfz33_7
     try clear hfz35_0
     try clear hfz35_1
     try clear hfz35_2
     try clear hfz35_3
     try clear hfz35_4
     try clear hfz35_5
     try clear hfz35_6
     try clear hfz35_7
     try clear hfz36_0
     try clear hfz36_1
     try clear hfz36_2
     try clear hfz36_3
     try clear hfz36_4
     try clear hfz36_5
     try clear hfz36_6
     try clear hfz36_7
     try clear hfz38_0
     try clear hfz38_1
     try clear hfz38_2
     try clear hfz38_3
     try clear hfz38_4
     try clear hfz38_5
     try clear hfz38_6
     try clear hfz38_7
     try clear hfz39_0
     try clear hfz39_1
     try clear hfz39_2
     try clear hfz39_3
     try clear hfz39_4
     try clear hfz39_5
     try clear hfz39_6
     try clear hfz39_7
     try clear hfz6_0
     try clear hfz6_1
     try clear hfz6_2
     try clear hfz6_3
     try clear hfz6_4
     try clear hfz6_5
     try clear hfz6_6
     try clear hfz6_7
     try clear p2
     obtain ⟨kq, x49_19, rfl, HA, HJ19, BK120, HB⟩ := hcut
     cases kq with
     | zero => exact absurd HA.out (by simp [sumpref27_Check.j1])
     | succ kj19 =>
      have H := HA.out
      clear HA
      simp only [sumpref27_Check.j1] at H
      by_cases c40 : x49_19 = true
      ·subst c40
       have H1 : (some 22) = some r := by rw [if_pos rfl] at H; exact H
       clear H
       have H := H1
       clear H1
       obtain rfl := Option.some.inj H
       go_wp2
       go_ret
       exact ⟨by first | rfl | (simp [errW_none, errW_some] <;> rfl) | (simp [*, errW_none, errW_some] <;> rfl) | (refine L.ret_bool ?_; rw [Bool.eq_iff_iff]; simp; done) | (refine L.ret_bool ?_; rw [Bool.eq_iff_iff]; simp [*]; done), by repeat (first | (with_reducible first | exact HB.out | apply below_alloc | apply pw_below_drewN | apply below_drew1 | refine below_set ?_ GE120.out) | exact HB.out)⟩
      ·replace c40 := Bool.eq_false_iff.mpr c40
       subst c40
       have H1 : (if a0_0 = 5 then (if a0_4 < 0 then (some 22) else (if a0_0 = 4 then (if (l0_7.length : Int) > 1024 then (some 22) else (some 0)) else (if a0_0 = 6 then (if (l0_7.length : Int) > 1024 then (some 22) else (some 0)) else (some 0)))) else (if a0_0 = 6 then (if a0_4 < 0 then (some 22) else (if a0_0 = 4 then (if (l0_7.length : Int) > 1024 then (some 22) else (some 0)) else (if (l0_7.length : Int) > 1024 then (some 22) else (some 0)))) else (if a0_0 = 7 then (if a0_4 < 0 then (some 22) else (if a0_0 = 4 then (if (l0_7.length : Int) > 1024 then (some 22) else (some 0)) else (some 0))) else (if a0_0 = 4 then (if (l0_7.length : Int) > 1024 then (some 22) else (some 0)) else (some 0))))) = some r := by rw [if_neg (show ¬ (false = true) by decide)] at H; exact H
       clear H
       have H := H1
       clear H1
       by_cases c41 : a0_0 = 5
       ·rw [if_pos c41] at H
        have c41b0 : (a0_0 == 5) = true := beq_iff_eq.mpr c41
        have c41b1 : (a0_0 != 5) = false := bne_eq_false_iff_eq.mpr c41
        clear c41
        by_cases c42 : a0_4 < 0
        ·rw [if_pos c42] at H
         have c42b0 : decide (a0_4 < 0) = true := decide_eq_true c42
         clear c42
         obtain rfl := Option.some.inj H
         have hcz43_0 : wc.cell? ⟨gb120, 0, none⟩ = some (.int .i64 a0_0) := (blk_cell BK120.out 0).trans rfl
         have hcz43_1 : wc.cell? ⟨gb120, 1, none⟩ = some (.int .i64 a0_1) := (blk_cell BK120.out 1).trans rfl
         have hcz43_2 : wc.cell? ⟨gb120, 2, none⟩ = some (.int .i64 a0_2) := (blk_cell BK120.out 2).trans rfl
         have hcz43_3 : wc.cell? ⟨gb120, 3, none⟩ = some (.int .i64 a0_3) := (blk_cell BK120.out 3).trans rfl
         have hcz43_4 : wc.cell? ⟨gb120, 4, none⟩ = some (.int .i64 a0_4) := (blk_cell BK120.out 4).trans rfl
         have hcz43_5 : wc.cell? ⟨gb120, 5, none⟩ = some (.string a0_5) := (blk_cell BK120.out 5).trans rfl
         have hcz43_6 : wc.cell? ⟨gb120, 6, none⟩ = some (.string a0_6) := (blk_cell BK120.out 6).trans rfl
         have hcz43_7 : wc.cell? ⟨gb120, 7, none⟩ = some (.slice A0_7 l0_7.length c0_7) := (blk_cell BK120.out 7).trans rfl
         have hfz43_0 := blk_frozen BK120.out 0
         have hfz43_1 := blk_frozen BK120.out 1
         have hfz43_2 := blk_frozen BK120.out 2
         have hfz43_3 := blk_frozen BK120.out 3
         have hfz43_4 := blk_frozen BK120.out 4
         have hfz43_5 := blk_frozen BK120.out 5
         have hfz43_6 := blk_frozen BK120.out 6
         have hfz43_7 := blk_frozen BK120.out 7
         go_wp2
         go_ret
         exact ⟨by first | rfl | (simp [errW_none, errW_some] <;> rfl) | (simp [*, errW_none, errW_some] <;> rfl) | (refine L.ret_bool ?_; rw [Bool.eq_iff_iff]; simp; done) | (refine L.ret_bool ?_; rw [Bool.eq_iff_iff]; simp [*]; done), by repeat (first | (with_reducible first | exact HB.out | apply below_alloc | apply pw_below_drewN | apply below_drew1 | refine below_set ?_ GE120.out) | exact HB.out)⟩
        ·rw [if_neg c42] at H
         have c42b0 : decide (a0_4 < 0) = false := decide_eq_false c42
         clear c42
         by_cases c44 : a0_0 = 4
         ·rw [if_pos c44] at H
          have c44b0 : (a0_0 == 4) = true := beq_iff_eq.mpr c44
          have c44b1 : (a0_0 != 4) = false := bne_eq_false_iff_eq.mpr c44
          clear c44
          by_cases c45 : (l0_7.length : Int) > 1024
          ·rw [if_pos c45] at H
           have c45b0 : decide (1024 < (l0_7.length : Int)) = true := decide_eq_true c45
           have c45b1 : decide (1024 < l0_7.length) = true := decide_eq_true (by omega)
           clear c45
           obtain rfl := Option.some.inj H
           have hcz46_0 : wc.cell? ⟨gb120, 0, none⟩ = some (.int .i64 a0_0) := (blk_cell BK120.out 0).trans rfl
           have hcz46_1 : wc.cell? ⟨gb120, 1, none⟩ = some (.int .i64 a0_1) := (blk_cell BK120.out 1).trans rfl
           have hcz46_2 : wc.cell? ⟨gb120, 2, none⟩ = some (.int .i64 a0_2) := (blk_cell BK120.out 2).trans rfl
           have hcz46_3 : wc.cell? ⟨gb120, 3, none⟩ = some (.int .i64 a0_3) := (blk_cell BK120.out 3).trans rfl
           have hcz46_4 : wc.cell? ⟨gb120, 4, none⟩ = some (.int .i64 a0_4) := (blk_cell BK120.out 4).trans rfl
           have hcz46_5 : wc.cell? ⟨gb120, 5, none⟩ = some (.string a0_5) := (blk_cell BK120.out 5).trans rfl
           have hcz46_6 : wc.cell? ⟨gb120, 6, none⟩ = some (.string a0_6) := (blk_cell BK120.out 6).trans rfl
           have hcz46_7 : wc.cell? ⟨gb120, 7, none⟩ = some (.slice A0_7 l0_7.length c0_7) := (blk_cell BK120.out 7).trans rfl
           have hfz46_0 := blk_frozen BK120.out 0
           have hfz46_1 := blk_frozen BK120.out 1
           have hfz46_2 := blk_frozen BK120.out 2
           have hfz46_3 := blk_frozen BK120.out 3
           have hfz46_4 := blk_frozen BK120.out 4
           have hfz46_5 := blk_frozen BK120.out 5
           have hfz46_6 := blk_frozen BK120.out 6
           have hfz46_7 := blk_frozen BK120.out 7
           go_wp2
           go_ret
           exact ⟨by first | rfl | (simp [errW_none, errW_some] <;> rfl) | (simp [*, errW_none, errW_some] <;> rfl) | (refine L.ret_bool ?_; rw [Bool.eq_iff_iff]; simp; done) | (refine L.ret_bool ?_; rw [Bool.eq_iff_iff]; simp [*]; done), by repeat (first | (with_reducible first | exact HB.out | apply below_alloc | apply pw_below_drewN | apply below_drew1 | refine below_set ?_ GE120.out) | exact HB.out)⟩
          ·rw [if_neg c45] at H
           have c45b0 : decide (1024 < (l0_7.length : Int)) = false := decide_eq_false c45
           have c45b1 : decide (1024 < l0_7.length) = false := decide_eq_false (by omega)
           clear c45
           obtain rfl := Option.some.inj H
           have hcz47_0 : wc.cell? ⟨gb120, 0, none⟩ = some (.int .i64 a0_0) := (blk_cell BK120.out 0).trans rfl
           have hcz47_1 : wc.cell? ⟨gb120, 1, none⟩ = some (.int .i64 a0_1) := (blk_cell BK120.out 1).trans rfl
           have hcz47_2 : wc.cell? ⟨gb120, 2, none⟩ = some (.int .i64 a0_2) := (blk_cell BK120.out 2).trans rfl
           have hcz47_3 : wc.cell? ⟨gb120, 3, none⟩ = some (.int .i64 a0_3) := (blk_cell BK120.out 3).trans rfl
           have hcz47_4 : wc.cell? ⟨gb120, 4, none⟩ = some (.int .i64 a0_4) := (blk_cell BK120.out 4).trans rfl
           have hcz47_5 : wc.cell? ⟨gb120, 5, none⟩ = some (.string a0_5) := (blk_cell BK120.out 5).trans rfl
           have hcz47_6 : wc.cell? ⟨gb120, 6, none⟩ = some (.string a0_6) := (blk_cell BK120.out 6).trans rfl
           have hcz47_7 : wc.cell? ⟨gb120, 7, none⟩ = some (.slice A0_7 l0_7.length c0_7) := (blk_cell BK120.out 7).trans rfl
           have hfz47_0 := blk_frozen BK120.out 0
           have hfz47_1 := blk_frozen BK120.out 1
           have hfz47_2 := blk_frozen BK120.out 2
           have hfz47_3 := blk_frozen BK120.out 3
           have hfz47_4 := blk_frozen BK120.out 4
           have hfz47_5 := blk_frozen BK120.out 5
           have hfz47_6 := blk_frozen BK120.out 6
           have hfz47_7 := blk_frozen BK120.out 7
           go_wp2
           go_ret
           exact ⟨by first | rfl | (simp [errW_none, errW_some] <;> rfl) | (simp [*, errW_none, errW_some] <;> rfl) | (refine L.ret_bool ?_; rw [Bool.eq_iff_iff]; simp; done) | (refine L.ret_bool ?_; rw [Bool.eq_iff_iff]; simp [*]; done), by repeat (first | (with_reducible first | exact HB.out | apply below_alloc | apply pw_below_drewN | apply below_drew1 | refine below_set ?_ GE120.out) | exact HB.out)⟩
         ·rw [if_neg c44] at H
          have c44b0 : (a0_0 == 4) = false := beq_eq_false_iff_ne.mpr c44
          have c44b1 : (a0_0 != 4) = true := bne_iff_ne.mpr c44
          by_cases c48 : a0_0 = 6
          ·rw [if_pos c48] at H
           have c48b0 : (a0_0 == 6) = true := beq_iff_eq.mpr c48
           have c48b1 : (a0_0 != 6) = false := bne_eq_false_iff_eq.mpr c48
           clear c48
           by_cases c49 : (l0_7.length : Int) > 1024
           ·rw [if_pos c49] at H
            have c49b0 : decide (1024 < (l0_7.length : Int)) = true := decide_eq_true c49
            have c49b1 : decide (1024 < l0_7.length) = true := decide_eq_true (by omega)
            clear c49
            obtain rfl := Option.some.inj H
            have hcz50_0 : wc.cell? ⟨gb120, 0, none⟩ = some (.int .i64 a0_0) := (blk_cell BK120.out 0).trans rfl
            have hcz50_1 : wc.cell? ⟨gb120, 1, none⟩ = some (.int .i64 a0_1) := (blk_cell BK120.out 1).trans rfl
            have hcz50_2 : wc.cell? ⟨gb120, 2, none⟩ = some (.int .i64 a0_2) := (blk_cell BK120.out 2).trans rfl
            have hcz50_3 : wc.cell? ⟨gb120, 3, none⟩ = some (.int .i64 a0_3) := (blk_cell BK120.out 3).trans rfl
            have hcz50_4 : wc.cell? ⟨gb120, 4, none⟩ = some (.int .i64 a0_4) := (blk_cell BK120.out 4).trans rfl
            have hcz50_5 : wc.cell? ⟨gb120, 5, none⟩ = some (.string a0_5) := (blk_cell BK120.out 5).trans rfl
            have hcz50_6 : wc.cell? ⟨gb120, 6, none⟩ = some (.string a0_6) := (blk_cell BK120.out 6).trans rfl
            have hcz50_7 : wc.cell? ⟨gb120, 7, none⟩ = some (.slice A0_7 l0_7.length c0_7) := (blk_cell BK120.out 7).trans rfl
            have hfz50_0 := blk_frozen BK120.out 0
            have hfz50_1 := blk_frozen BK120.out 1
            have hfz50_2 := blk_frozen BK120.out 2
            have hfz50_3 := blk_frozen BK120.out 3
            have hfz50_4 := blk_frozen BK120.out 4
            have hfz50_5 := blk_frozen BK120.out 5
            have hfz50_6 := blk_frozen BK120.out 6
            have hfz50_7 := blk_frozen BK120.out 7
            go_wp2
            go_ret
            exact ⟨by first | rfl | (simp [errW_none, errW_some] <;> rfl) | (simp [*, errW_none, errW_some] <;> rfl) | (refine L.ret_bool ?_; rw [Bool.eq_iff_iff]; simp; done) | (refine L.ret_bool ?_; rw [Bool.eq_iff_iff]; simp [*]; done), by repeat (first | (with_reducible first | exact HB.out | apply below_alloc | apply pw_below_drewN | apply below_drew1 | refine below_set ?_ GE120.out) | exact HB.out)⟩
           ·rw [if_neg c49] at H
            have c49b0 : decide (1024 < (l0_7.length : Int)) = false := decide_eq_false c49
            have c49b1 : decide (1024 < l0_7.length) = false := decide_eq_false (by omega)
            clear c49
            obtain rfl := Option.some.inj H
            have hcz51_0 : wc.cell? ⟨gb120, 0, none⟩ = some (.int .i64 a0_0) := (blk_cell BK120.out 0).trans rfl
            have hcz51_1 : wc.cell? ⟨gb120, 1, none⟩ = some (.int .i64 a0_1) := (blk_cell BK120.out 1).trans rfl
            have hcz51_2 : wc.cell? ⟨gb120, 2, none⟩ = some (.int .i64 a0_2) := (blk_cell BK120.out 2).trans rfl
            have hcz51_3 : wc.cell? ⟨gb120, 3, none⟩ = some (.int .i64 a0_3) := (blk_cell BK120.out 3).trans rfl
            have hcz51_4 : wc.cell? ⟨gb120, 4, none⟩ = some (.int .i64 a0_4) := (blk_cell BK120.out 4).trans rfl
            have hcz51_5 : wc.cell? ⟨gb120, 5, none⟩ = some (.string a0_5) := (blk_cell BK120.out 5).trans rfl
            have hcz51_6 : wc.cell? ⟨gb120, 6, none⟩ = some (.string a0_6) := (blk_cell BK120.out 6).trans rfl
            have hcz51_7 : wc.cell? ⟨gb120, 7, none⟩ = some (.slice A0_7 l0_7.length c0_7) := (blk_cell BK120.out 7).trans rfl
            have hfz51_0 := blk_frozen BK120.out 0
            have hfz51_1 := blk_frozen BK120.out 1
            have hfz51_2 := blk_frozen BK120.out 2
            have hfz51_3 := blk_frozen BK120.out 3
            have hfz51_4 := blk_frozen BK120.out 4
            have hfz51_5 := blk_frozen BK120.out 5
            have hfz51_6 := blk_frozen BK120.out 6
            have hfz51_7 := blk_frozen BK120.out 7
            go_wp2
            go_ret
            exact ⟨by first | rfl | (simp [errW_none, errW_some] <;> rfl) | (simp [*, errW_none, errW_some] <;> rfl) | (refine L.ret_bool ?_; rw [Bool.eq_iff_iff]; simp; done) | (refine L.ret_bool ?_; rw [Bool.eq_iff_iff]; simp [*]; done), by repeat (first | (with_reducible first | exact HB.out | apply below_alloc | apply pw_below_drewN | apply below_drew1 | refine below_set ?_ GE120.out) | exact HB.out)⟩
          ·rw [if_neg c48] at H
           have c48b0 : (a0_0 == 6) = false := beq_eq_false_iff_ne.mpr c48
           have c48b1 : (a0_0 != 6) = true := bne_iff_ne.mpr c48
           obtain rfl := Option.some.inj H
           have hcz52_0 : wc.cell? ⟨gb120, 0, none⟩ = some (.int .i64 a0_0) := (blk_cell BK120.out 0).trans rfl
           have hcz52_1 : wc.cell? ⟨gb120, 1, none⟩ = some (.int .i64 a0_1) := (blk_cell BK120.out 1).trans rfl
           have hcz52_2 : wc.cell? ⟨gb120, 2, none⟩ = some (.int .i64 a0_2) := (blk_cell BK120.out 2).trans rfl
           have hcz52_3 : wc.cell? ⟨gb120, 3, none⟩ = some (.int .i64 a0_3) := (blk_cell BK120.out 3).trans rfl
           have hcz52_4 : wc.cell? ⟨gb120, 4, none⟩ = some (.int .i64 a0_4) := (blk_cell BK120.out 4).trans rfl
           have hcz52_5 : wc.cell? ⟨gb120, 5, none⟩ = some (.string a0_5) := (blk_cell BK120.out 5).trans rfl
           have hcz52_6 : wc.cell? ⟨gb120, 6, none⟩ = some (.string a0_6) := (blk_cell BK120.out 6).trans rfl
           have hcz52_7 : wc.cell? ⟨gb120, 7, none⟩ = some (.slice A0_7 l0_7.length c0_7) := (blk_cell BK120.out 7).trans rfl
           have hfz52_0 := blk_frozen BK120.out 0
           have hfz52_1 := blk_frozen BK120.out 1
           have hfz52_2 := blk_frozen BK120.out 2
           have hfz52_3 := blk_frozen BK120.out 3
           have hfz52_4 := blk_frozen BK120.out 4
           have hfz52_5 := blk_frozen BK120.out 5
           have hfz52_6 := blk_frozen BK120.out 6
           have hfz52_7 := blk_frozen BK120.out 7
           go_wp2
           go_ret
           exact ⟨by first | rfl | (simp [errW_none, errW_some] <;> rfl) | (simp [*, errW_none, errW_some] <;> rfl) | (refine L.ret_bool ?_; rw [Bool.eq_iff_iff]; simp; done) | (refine L.ret_bool ?_; rw [Bool.eq_iff_iff]; simp [*]; done), by repeat (first | (with_reducible first | exact HB.out | apply below_alloc | apply pw_below_drewN | apply below_drew1 | refine below_set ?_ GE120.out) | exact HB.out)⟩
       ·rw [if_neg c41] at H
        have c41b0 : (a0_0 == 5) = false := beq_eq_false_iff_ne.mpr c41
        have c41b1 : (a0_0 != 5) = true := bne_iff_ne.mpr c41
        by_cases c53 : a0_0 = 6
        ·rw [if_pos c53] at H
         have c53b0 : (a0_0 == 6) = true := beq_iff_eq.mpr c53
         have c53b1 : (a0_0 != 6) = false := bne_eq_false_iff_eq.mpr c53
         clear c53
         by_cases c54 : a0_4 < 0
         ·rw [if_pos c54] at H
          have c54b0 : decide (a0_4 < 0) = true := decide_eq_true c54
          clear c54
          obtain rfl := Option.some.inj H
          have hcz55_0 : wc.cell? ⟨gb120, 0, none⟩ = some (.int .i64 a0_0) := (blk_cell BK120.out 0).trans rfl
          have hcz55_1 : wc.cell? ⟨gb120, 1, none⟩ = some (.int .i64 a0_1) := (blk_cell BK120.out 1).trans rfl
          have hcz55_2 : wc.cell? ⟨gb120, 2, none⟩ = some (.int .i64 a0_2) := (blk_cell BK120.out 2).trans rfl
          have hcz55_3 : wc.cell? ⟨gb120, 3, none⟩ = some (.int .i64 a0_3) := (blk_cell BK120.out 3).trans rfl
          have hcz55_4 : wc.cell? ⟨gb120, 4, none⟩ = some (.int .i64 a0_4) := (blk_cell BK120.out 4).trans rfl
          have hcz55_5 : wc.cell? ⟨gb120, 5, none⟩ = some (.string a0_5) := (blk_cell BK120.out 5).trans rfl
          have hcz55_6 : wc.cell? ⟨gb120, 6, none⟩ = some (.string a0_6) := (blk_cell BK120.out 6).trans rfl
          have hcz55_7 : wc.cell? ⟨gb120, 7, none⟩ = some (.slice A0_7 l0_7.length c0_7) := (blk_cell BK120.out 7).trans rfl
          have hfz55_0 := blk_frozen BK120.out 0
          have hfz55_1 := blk_frozen BK120.out 1
          have hfz55_2 := blk_frozen BK120.out 2
          have hfz55_3 := blk_frozen BK120.out 3
          have hfz55_4 := blk_frozen BK120.out 4
          have hfz55_5 := blk_frozen BK120.out 5
          have hfz55_6 := blk_frozen BK120.out 6
          have hfz55_7 := blk_frozen BK120.out 7
          go_wp2
          go_ret
          exact ⟨by first | rfl | (simp [errW_none, errW_some] <;> rfl) | (simp [*, errW_none, errW_some] <;> rfl) | (refine L.ret_bool ?_; rw [Bool.eq_iff_iff]; simp; done) | (refine L.ret_bool ?_; rw [Bool.eq_iff_iff]; simp [*]; done), by repeat (first | (with_reducible first | exact HB.out | apply below_alloc | apply pw_below_drewN | apply below_drew1 | refine below_set ?_ GE120.out) | exact HB.out)⟩
         ·rw [if_neg c54] at H
          have c54b0 : decide (a0_4 < 0) = false := decide_eq_false c54
          clear c54
          by_cases c56 : a0_0 = 4
          ·rw [if_pos c56] at H
           have c56b0 : (a0_0 == 4) = true := beq_iff_eq.mpr c56
           have c56b1 : (a0_0 != 4) = false := bne_eq_false_iff_eq.mpr c56
           clear c56
           by_cases c57 : (l0_7.length : Int) > 1024
           ·rw [if_pos c57] at H
            have c57b0 : decide (1024 < (l0_7.length : Int)) = true := decide_eq_true c57
            have c57b1 : decide (1024 < l0_7.length) = true := decide_eq_true (by omega)
            clear c57
            obtain rfl := Option.some.inj H
            have hcz58_0 : wc.cell? ⟨gb120, 0, none⟩ = some (.int .i64 a0_0) := (blk_cell BK120.out 0).trans rfl
            have hcz58_1 : wc.cell? ⟨gb120, 1, none⟩ = some (.int .i64 a0_1) := (blk_cell BK120.out 1).trans rfl
            have hcz58_2 : wc.cell? ⟨gb120, 2, none⟩ = some (.int .i64 a0_2) := (blk_cell BK120.out 2).trans rfl
            have hcz58_3 : wc.cell? ⟨gb120, 3, none⟩ = some (.int .i64 a0_3) := (blk_cell BK120.out 3).trans rfl
            have hcz58_4 : wc.cell? ⟨gb120, 4, none⟩ = some (.int .i64 a0_4) := (blk_cell BK120.out 4).trans rfl
            have hcz58_5 : wc.cell? ⟨gb120, 5, none⟩ = some (.string a0_5) := (blk_cell BK120.out 5).trans rfl
            have hcz58_6 : wc.cell? ⟨gb120, 6, none⟩ = some (.string a0_6) := (blk_cell BK120.out 6).trans rfl
            have hcz58_7 : wc.cell? ⟨gb120, 7, none⟩ = some (.slice A0_7 l0_7.length c0_7) := (blk_cell BK120.out 7).trans rfl
            have hfz58_0 := blk_frozen BK120.out 0
            have hfz58_1 := blk_frozen BK120.out 1
            have hfz58_2 := blk_frozen BK120.out 2
            have hfz58_3 := blk_frozen BK120.out 3
            have hfz58_4 := blk_frozen BK120.out 4
            have hfz58_5 := blk_frozen BK120.out 5
            have hfz58_6 := blk_frozen BK120.out 6
            have hfz58_7 := blk_frozen BK120.out 7
            go_wp2
            go_ret
            exact ⟨by first | rfl | (simp [errW_none, errW_some] <;> rfl) | (simp [*, errW_none, errW_some] <;> rfl) | (refine L.ret_bool ?_; rw [Bool.eq_iff_iff]; simp; done) | (refine L.ret_bool ?_; rw [Bool.eq_iff_iff]; simp [*]; done), by repeat (first | (with_reducible first | exact HB.out | apply below_alloc | apply pw_below_drewN | apply below_drew1 | refine below_set ?_ GE120.out) | exact HB.out)⟩
           ·rw [if_neg c57] at H
            have c57b0 : decide (1024 < (l0_7.length : Int)) = false := decide_eq_false c57
            have c57b1 : decide (1024 < l0_7.length) = false := decide_eq_false (by omega)
            clear c57
            obtain rfl := Option.some.inj H
            have hcz59_0 : wc.cell? ⟨gb120, 0, none⟩ = some (.int .i64 a0_0) := (blk_cell BK120.out 0).trans rfl
            have hcz59_1 : wc.cell? ⟨gb120, 1, none⟩ = some (.int .i64 a0_1) := (blk_cell BK120.out 1).trans rfl
            have hcz59_2 : wc.cell? ⟨gb120, 2, none⟩ = some (.int .i64 a0_2) := (blk_cell BK120.out 2).trans rfl
            have hcz59_3 : wc.cell? ⟨gb120, 3, none⟩ = some (.int .i64 a0_3) := (blk_cell BK120.out 3).trans rfl
            have hcz59_4 : wc.cell? ⟨gb120, 4, none⟩ = some (.int .i64 a0_4) := (blk_cell BK120.out 4).trans rfl
            have hcz59_5 : wc.cell? ⟨gb120, 5, none⟩ = some (.string a0_5) := (blk_cell BK120.out 5).trans rfl
            have hcz59_6 : wc.cell? ⟨gb120, 6, none⟩ = some (.string a0_6) := (blk_cell BK120.out 6).trans rfl
            have hcz59_7 : wc.cell? ⟨gb120, 7, none⟩ = some (.slice A0_7 l0_7.length c0_7) := (blk_cell BK120.out 7).trans rfl
            have hfz59_0 := blk_frozen BK120.out 0
            have hfz59_1 := blk_frozen BK120.out 1
            have hfz59_2 := blk_frozen BK120.out 2
            have hfz59_3 := blk_frozen BK120.out 3
            have hfz59_4 := blk_frozen BK120.out 4
            have hfz59_5 := blk_frozen BK120.out 5
            have hfz59_6 := blk_frozen BK120.out 6
            have hfz59_7 := blk_frozen BK120.out 7
            go_wp2
            go_ret
            exact ⟨by first | rfl | (simp [errW_none, errW_some] <;> rfl) | (simp [*, errW_none, errW_some] <;> rfl) | (refine L.ret_bool ?_; rw [Bool.eq_iff_iff]; simp; done) | (refine L.ret_bool ?_; rw [Bool.eq_iff_iff]; simp [*]; done), by repeat (first | (with_reducible first | exact HB.out | apply below_alloc | apply pw_below_drewN | apply below_drew1 | refine below_set ?_ GE120.out) | exact HB.out)⟩
          ·rw [if_neg c56] at H
           have c56b0 : (a0_0 == 4) = false := beq_eq_false_iff_ne.mpr c56
           have c56b1 : (a0_0 != 4) = true := bne_iff_ne.mpr c56
           by_cases c60 : (l0_7.length : Int) > 1024
           ·rw [if_pos c60] at H
            have c60b0 : decide (1024 < (l0_7.length : Int)) = true := decide_eq_true c60
            have c60b1 : decide (1024 < l0_7.length) = true := decide_eq_true (by omega)
            clear c60
            obtain rfl := Option.some.inj H
            have hcz61_0 : wc.cell? ⟨gb120, 0, none⟩ = some (.int .i64 a0_0) := (blk_cell BK120.out 0).trans rfl
            have hcz61_1 : wc.cell? ⟨gb120, 1, none⟩ = some (.int .i64 a0_1) := (blk_cell BK120.out 1).trans rfl
            have hcz61_2 : wc.cell? ⟨gb120, 2, none⟩ = some (.int .i64 a0_2) := (blk_cell BK120.out 2).trans rfl
            have hcz61_3 : wc.cell? ⟨gb120, 3, none⟩ = some (.int .i64 a0_3) := (blk_cell BK120.out 3).trans rfl
            have hcz61_4 : wc.cell? ⟨gb120, 4, none⟩ = some (.int .i64 a0_4) := (blk_cell BK120.out 4).trans rfl
            have hcz61_5 : wc.cell? ⟨gb120, 5, none⟩ = some (.string a0_5) := (blk_cell BK120.out 5).trans rfl
            have hcz61_6 : wc.cell? ⟨gb120, 6, none⟩ = some (.string a0_6) := (blk_cell BK120.out 6).trans rfl
            have hcz61_7 : wc.cell? ⟨gb120, 7, none⟩ = some (.slice A0_7 l0_7.length c0_7) := (blk_cell BK120.out 7).trans rfl
            have hfz61_0 := blk_frozen BK120.out 0
            have hfz61_1 := blk_frozen BK120.out 1
            have hfz61_2 := blk_frozen BK120.out 2
            have hfz61_3 := blk_frozen BK120.out 3
            have hfz61_4 := blk_frozen BK120.out 4
            have hfz61_5 := blk_frozen BK120.out 5
            have hfz61_6 := blk_frozen BK120.out 6
            have hfz61_7 := blk_frozen BK120.out 7
            go_wp2
            go_ret
            exact ⟨by first | rfl | (simp [errW_none, errW_some] <;> rfl) | (simp [*, errW_none, errW_some] <;> rfl) | (refine L.ret_bool ?_; rw [Bool.eq_iff_iff]; simp; done) | (refine L.ret_bool ?_; rw [Bool.eq_iff_iff]; simp [*]; done), by repeat (first | (with_reducible first | exact HB.out | apply below_alloc | apply pw_below_drewN | apply below_drew1 | refine below_set ?_ GE120.out) | exact HB.out)⟩
           ·rw [if_neg c60] at H
            have c60b0 : decide (1024 < (l0_7.length : Int)) = false := decide_eq_false c60
            have c60b1 : decide (1024 < l0_7.length) = false := decide_eq_false (by omega)
            clear c60
            obtain rfl := Option.some.inj H
            have hcz62_0 : wc.cell? ⟨gb120, 0, none⟩ = some (.int .i64 a0_0) := (blk_cell BK120.out 0).trans rfl
            have hcz62_1 : wc.cell? ⟨gb120, 1, none⟩ = some (.int .i64 a0_1) := (blk_cell BK120.out 1).trans rfl
            have hcz62_2 : wc.cell? ⟨gb120, 2, none⟩ = some (.int .i64 a0_2) := (blk_cell BK120.out 2).trans rfl
            have hcz62_3 : wc.cell? ⟨gb120, 3, none⟩ = some (.int .i64 a0_3) := (blk_cell BK120.out 3).trans rfl
            have hcz62_4 : wc.cell? ⟨gb120, 4, none⟩ = some (.int .i64 a0_4) := (blk_cell BK120.out 4).trans rfl
            have hcz62_5 : wc.cell? ⟨gb120, 5, none⟩ = some (.string a0_5) := (blk_cell BK120.out 5).trans rfl
            have hcz62_6 : wc.cell? ⟨gb120, 6, none⟩ = some (.string a0_6) := (blk_cell BK120.out 6).trans rfl
            have hcz62_7 : wc.cell? ⟨gb120, 7, none⟩ = some (.slice A0_7 l0_7.length c0_7) := (blk_cell BK120.out 7).trans rfl
            have hfz62_0 := blk_frozen BK120.out 0
            have hfz62_1 := blk_frozen BK120.out 1
            have hfz62_2 := blk_frozen BK120.out 2
            have hfz62_3 := blk_frozen BK120.out 3
            have hfz62_4 := blk_frozen BK120.out 4
            have hfz62_5 := blk_frozen BK120.out 5
            have hfz62_6 := blk_frozen BK120.out 6
            have hfz62_7 := blk_frozen BK120.out 7
            go_wp2
            go_ret
            exact ⟨by first | rfl | (simp [errW_none, errW_some] <;> rfl) | (simp [*, errW_none, errW_some] <;> rfl) | (refine L.ret_bool ?_; rw [Bool.eq_iff_iff]; simp; done) | (refine L.ret_bool ?_; rw [Bool.eq_iff_iff]; simp [*]; done), by repeat (first | (with_reducible first | exact HB.out | apply below_alloc | apply pw_below_drewN | apply below_drew1 | refine below_set ?_ GE120.out) | exact HB.out)⟩
        ·rw [if_neg c53] at H
         have c53b0 : (a0_0 == 6) = false := beq_eq_false_iff_ne.mpr c53
         have c53b1 : (a0_0 != 6) = true := bne_iff_ne.mpr c53
         by_cases c63 : a0_0 = 7
         ·rw [if_pos c63] at H
          have c63b0 : (a0_0 == 7) = true := beq_iff_eq.mpr c63
          have c63b1 : (a0_0 != 7) = false := bne_eq_false_iff_eq.mpr c63
          clear c63
          by_cases c64 : a0_4 < 0
          ·rw [if_pos c64] at H
           have c64b0 : decide (a0_4 < 0) = true := decide_eq_true c64
           clear c64
           obtain rfl := Option.some.inj H
           have hcz65_0 : wc.cell? ⟨gb120, 0, none⟩ = some (.int .i64 a0_0) := (blk_cell BK120.out 0).trans rfl
           have hcz65_1 : wc.cell? ⟨gb120, 1, none⟩ = some (.int .i64 a0_1) := (blk_cell BK120.out 1).trans rfl
           have hcz65_2 : wc.cell? ⟨gb120, 2, none⟩ = some (.int .i64 a0_2) := (blk_cell BK120.out 2).trans rfl
           have hcz65_3 : wc.cell? ⟨gb120, 3, none⟩ = some (.int .i64 a0_3) := (blk_cell BK120.out 3).trans rfl
           have hcz65_4 : wc.cell? ⟨gb120, 4, none⟩ = some (.int .i64 a0_4) := (blk_cell BK120.out 4).trans rfl
           have hcz65_5 : wc.cell? ⟨gb120, 5, none⟩ = some (.string a0_5) := (blk_cell BK120.out 5).trans rfl
           have hcz65_6 : wc.cell? ⟨gb120, 6, none⟩ = some (.string a0_6) := (blk_cell BK120.out 6).trans rfl
           have hcz65_7 : wc.cell? ⟨gb120, 7, none⟩ = some (.slice A0_7 l0_7.length c0_7) := (blk_cell BK120.out 7).trans rfl
           have hfz65_0 := blk_frozen BK120.out 0
           have hfz65_1 := blk_frozen BK120.out 1
           have hfz65_2 := blk_frozen BK120.out 2
           have hfz65_3 := blk_frozen BK120.out 3
           have hfz65_4 := blk_frozen BK120.out 4
           have hfz65_5 := blk_frozen BK120.out 5
           have hfz65_6 := blk_frozen BK120.out 6
           have hfz65_7 := blk_frozen BK120.out 7
           go_wp2
           go_ret
           exact ⟨by first | rfl | (simp [errW_none, errW_some] <;> rfl) | (simp [*, errW_none, errW_some] <;> rfl) | (refine L.ret_bool ?_; rw [Bool.eq_iff_iff]; simp; done) | (refine L.ret_bool ?_; rw [Bool.eq_iff_iff]; simp [*]; done), by repeat (first | (with_reducible first | exact HB.out | apply below_alloc | apply pw_below_drewN | apply below_drew1 | refine below_set ?_ GE120.out) | exact HB.out)⟩
          ·rw [if_neg c64] at H
           have c64b0 : decide (a0_4 < 0) = false := decide_eq_false c64
           clear c64
           by_cases c66 : a0_0 = 4
           ·rw [if_pos c66] at H
            have c66b0 : (a0_0 == 4) = true := beq_iff_eq.mpr c66
            have c66b1 : (a0_0 != 4) = false := bne_eq_false_iff_eq.mpr c66
            clear c66
            by_cases c67 : (l0_7.length : Int) > 1024
            ·rw [if_pos c67] at H
             have c67b0 : decide (1024 < (l0_7.length : Int)) = true := decide_eq_true c67
             have c67b1 : decide (1024 < l0_7.length) = true := decide_eq_true (by omega)
             clear c67
             obtain rfl := Option.some.inj H
             have hcz68_0 : wc.cell? ⟨gb120, 0, none⟩ = some (.int .i64 a0_0) := (blk_cell BK120.out 0).trans rfl
             have hcz68_1 : wc.cell? ⟨gb120, 1, none⟩ = some (.int .i64 a0_1) := (blk_cell BK120.out 1).trans rfl
             have hcz68_2 : wc.cell? ⟨gb120, 2, none⟩ = some (.int .i64 a0_2) := (blk_cell BK120.out 2).trans rfl
             have hcz68_3 : wc.cell? ⟨gb120, 3, none⟩ = some (.int .i64 a0_3) := (blk_cell BK120.out 3).trans rfl
             have hcz68_4 : wc.cell? ⟨gb120, 4, none⟩ = some (.int .i64 a0_4) := (blk_cell BK120.out 4).trans rfl
             have hcz68_5 : wc.cell? ⟨gb120, 5, none⟩ = some (.string a0_5) := (blk_cell BK120.out 5).trans rfl
             have hcz68_6 : wc.cell? ⟨gb120, 6, none⟩ = some (.string a0_6) := (blk_cell BK120.out 6).trans rfl
             have hcz68_7 : wc.cell? ⟨gb120, 7, none⟩ = some (.slice A0_7 l0_7.length c0_7) := (blk_cell BK120.out 7).trans rfl
             have hfz68_0 := blk_frozen BK120.out 0
             have hfz68_1 := blk_frozen BK120.out 1
             have hfz68_2 := blk_frozen BK120.out 2
             have hfz68_3 := blk_frozen BK120.out 3
             have hfz68_4 := blk_frozen BK120.out 4
             have hfz68_5 := blk_frozen BK120.out 5
             have hfz68_6 := blk_frozen BK120.out 6
             have hfz68_7 := blk_frozen BK120.out 7
             go_wp2
             go_ret
             exact ⟨by first | rfl | (simp [errW_none, errW_some] <;> rfl) | (simp [*, errW_none, errW_some] <;> rfl) | (refine L.ret_bool ?_; rw [Bool.eq_iff_iff]; simp; done) | (refine L.ret_bool ?_; rw [Bool.eq_iff_iff]; simp [*]; done), by repeat (first | (with_reducible first | exact HB.out | apply below_alloc | apply pw_below_drewN | apply below_drew1 | refine below_set ?_ GE120.out) | exact HB.out)⟩
            ·rw [if_neg c67] at H
             have c67b0 : decide (1024 < (l0_7.length : Int)) = false := decide_eq_false c67
             have c67b1 : decide (1024 < l0_7.length) = false := decide_eq_false (by omega)
             clear c67
             obtain rfl := Option.some.inj H
             have hcz69_0 : wc.cell? ⟨gb120, 0, none⟩ = some (.int .i64 a0_0) := (blk_cell BK120.out 0).trans rfl
             have hcz69_1 : wc.cell? ⟨gb120, 1, none⟩ = some (.int .i64 a0_1) := (blk_cell BK120.out 1).trans rfl
             have hcz69_2 : wc.cell? ⟨gb120, 2, none⟩ = some (.int .i64 a0_2) := (blk_cell BK120.out 2).trans rfl
             have hcz69_3 : wc.cell? ⟨gb120, 3, none⟩ = some (.int .i64 a0_3) := (blk_cell BK120.out 3).trans rfl
             have hcz69_4 : wc.cell? ⟨gb120, 4, none⟩ = some (.int .i64 a0_4) := (blk_cell BK120.out 4).trans rfl
             have hcz69_5 : wc.cell? ⟨gb120, 5, none⟩ = some (.string a0_5) := (blk_cell BK120.out 5).trans rfl
             have hcz69_6 : wc.cell? ⟨gb120, 6, none⟩ = some (.string a0_6) := (blk_cell BK120.out 6).trans rfl
             have hcz69_7 : wc.cell? ⟨gb120, 7, none⟩ = some (.slice A0_7 l0_7.length c0_7) := (blk_cell BK120.out 7).trans rfl
             have hfz69_0 := blk_frozen BK120.out 0
             have hfz69_1 := blk_frozen BK120.out 1
             have hfz69_2 := blk_frozen BK120.out 2
             have hfz69_3 := blk_frozen BK120.out 3
             have hfz69_4 := blk_frozen BK120.out 4
             have hfz69_5 := blk_frozen BK120.out 5
             have hfz69_6 := blk_frozen BK120.out 6
             have hfz69_7 := blk_frozen BK120.out 7
             go_wp2
             go_ret
             exact ⟨by first | rfl | (simp [errW_none, errW_some] <;> rfl) | (simp [*, errW_none, errW_some] <;> rfl) | (refine L.ret_bool ?_; rw [Bool.eq_iff_iff]; simp; done) | (refine L.ret_bool ?_; rw [Bool.eq_iff_iff]; simp [*]; done), by repeat (first | (with_reducible first | exact HB.out | apply below_alloc | apply pw_below_drewN | apply below_drew1 | refine below_set ?_ GE120.out) | exact HB.out)⟩
           ·rw [if_neg c66] at H
            have c66b0 : (a0_0 == 4) = false := beq_eq_false_iff_ne.mpr c66
            have c66b1 : (a0_0 != 4) = true := bne_iff_ne.mpr c66
            obtain rfl := Option.some.inj H
            have hcz70_0 : wc.cell? ⟨gb120, 0, none⟩ = some (.int .i64 a0_0) := (blk_cell BK120.out 0).trans rfl
            have hcz70_1 : wc.cell? ⟨gb120, 1, none⟩ = some (.int .i64 a0_1) := (blk_cell BK120.out 1).trans rfl
            have hcz70_2 : wc.cell? ⟨gb120, 2, none⟩ = some (.int .i64 a0_2) := (blk_cell BK120.out 2).trans rfl
            have hcz70_3 : wc.cell? ⟨gb120, 3, none⟩ = some (.int .i64 a0_3) := (blk_cell BK120.out 3).trans rfl
            have hcz70_4 : wc.cell? ⟨gb120, 4, none⟩ = some (.int .i64 a0_4) := (blk_cell BK120.out 4).trans rfl
            have hcz70_5 : wc.cell? ⟨gb120, 5, none⟩ = some (.string a0_5) := (blk_cell BK120.out 5).trans rfl
            have hcz70_6 : wc.cell? ⟨gb120, 6, none⟩ = some (.string a0_6) := (blk_cell BK120.out 6).trans rfl
            have hcz70_7 : wc.cell? ⟨gb120, 7, none⟩ = some (.slice A0_7 l0_7.length c0_7) := (blk_cell BK120.out 7).trans rfl
            have hfz70_0 := blk_frozen BK120.out 0
            have hfz70_1 := blk_frozen BK120.out 1
            have hfz70_2 := blk_frozen BK120.out 2
            have hfz70_3 := blk_frozen BK120.out 3
            have hfz70_4 := blk_frozen BK120.out 4
            have hfz70_5 := blk_frozen BK120.out 5
            have hfz70_6 := blk_frozen BK120.out 6
            have hfz70_7 := blk_frozen BK120.out 7
            go_wp2
            go_ret
            exact ⟨by first | rfl | (simp [errW_none, errW_some] <;> rfl) | (simp [*, errW_none, errW_some] <;> rfl) | (refine L.ret_bool ?_; rw [Bool.eq_iff_iff]; simp; done) | (refine L.ret_bool ?_; rw [Bool.eq_iff_iff]; simp [*]; done), by repeat (first | (with_reducible first | exact HB.out | apply below_alloc | apply pw_below_drewN | apply below_drew1 | refine below_set ?_ GE120.out) | exact HB.out)⟩
         ·rw [if_neg c63] at H
          have c63b0 : (a0_0 == 7) = false := beq_eq_false_iff_ne.mpr c63
          have c63b1 : (a0_0 != 7) = true := bne_iff_ne.mpr c63
          by_cases c71 : a0_0 = 4
          ·rw [if_pos c71] at H
           have c71b0 : (a0_0 == 4) = true := beq_iff_eq.mpr c71
           have c71b1 : (a0_0 != 4) = false := bne_eq_false_iff_eq.mpr c71
           clear c71
           by_cases c72 : (l0_7.length : Int) > 1024
           ·rw [if_pos c72] at H
            have c72b0 : decide (1024 < (l0_7.length : Int)) = true := decide_eq_true c72
            have c72b1 : decide (1024 < l0_7.length) = true := decide_eq_true (by omega)
            clear c72
            obtain rfl := Option.some.inj H
            have hcz73_0 : wc.cell? ⟨gb120, 0, none⟩ = some (.int .i64 a0_0) := (blk_cell BK120.out 0).trans rfl
            have hcz73_1 : wc.cell? ⟨gb120, 1, none⟩ = some (.int .i64 a0_1) := (blk_cell BK120.out 1).trans rfl
            have hcz73_2 : wc.cell? ⟨gb120, 2, none⟩ = some (.int .i64 a0_2) := (blk_cell BK120.out 2).trans rfl
            have hcz73_3 : wc.cell? ⟨gb120, 3, none⟩ = some (.int .i64 a0_3) := (blk_cell BK120.out 3).trans rfl
            have hcz73_4 : wc.cell? ⟨gb120, 4, none⟩ = some (.int .i64 a0_4) := (blk_cell BK120.out 4).trans rfl
            have hcz73_5 : wc.cell? ⟨gb120, 5, none⟩ = some (.string a0_5) := (blk_cell BK120.out 5).trans rfl
            have hcz73_6 : wc.cell? ⟨gb120, 6, none⟩ = some (.string a0_6) := (blk_cell BK120.out 6).trans rfl
            have hcz73_7 : wc.cell? ⟨gb120, 7, none⟩ = some (.slice A0_7 l0_7.length c0_7) := (blk_cell BK120.out 7).trans rfl
            have hfz73_0 := blk_frozen BK120.out 0
            have hfz73_1 := blk_frozen BK120.out 1
            have hfz73_2 := blk_frozen BK120.out 2
            have hfz73_3 := blk_frozen BK120.out 3
            have hfz73_4 := blk_frozen BK120.out 4
            have hfz73_5 := blk_frozen BK120.out 5
            have hfz73_6 := blk_frozen BK120.out 6
            have hfz73_7 := blk_frozen BK120.out 7
            go_wp2
            go_ret
            exact ⟨by first | rfl | (simp [errW_none, errW_some] <;> rfl) | (simp [*, errW_none, errW_some] <;> rfl) | (refine L.ret_bool ?_; rw [Bool.eq_iff_iff]; simp; done) | (refine L.ret_bool ?_; rw [Bool.eq_iff_iff]; simp [*]; done), by repeat (first | (with_reducible first | exact HB.out | apply below_alloc | apply pw_below_drewN | apply below_drew1 | refine below_set ?_ GE120.out) | exact HB.out)⟩
           ·rw [if_neg c72] at H
            have c72b0 : decide (1024 < (l0_7.length : Int)) = false := decide_eq_false c72
            have c72b1 : decide (1024 < l0_7.length) = false := decide_eq_false (by omega)
            clear c72
            obtain rfl := Option.some.inj H
            have hcz74_0 : wc.cell? ⟨gb120, 0, none⟩ = some (.int .i64 a0_0) := (blk_cell BK120.out 0).trans rfl
            have hcz74_1 : wc.cell? ⟨gb120, 1, none⟩ = some (.int .i64 a0_1) := (blk_cell BK120.out 1).trans rfl
            have hcz74_2 : wc.cell? ⟨gb120, 2, none⟩ = some (.int .i64 a0_2) := (blk_cell BK120.out 2).trans rfl
            have hcz74_3 : wc.cell? ⟨gb120, 3, none⟩ = some (.int .i64 a0_3) := (blk_cell BK120.out 3).trans rfl
            have hcz74_4 : wc.cell? ⟨gb120, 4, none⟩ = some (.int .i64 a0_4) := (blk_cell BK120.out 4).trans rfl
            have hcz74_5 : wc.cell? ⟨gb120, 5, none⟩ = some (.string a0_5) := (blk_cell BK120.out 5).trans rfl
            have hcz74_6 : wc.cell? ⟨gb120, 6, none⟩ = some (.string a0_6) := (blk_cell BK120.out 6).trans rfl
            have hcz74_7 : wc.cell? ⟨gb120, 7, none⟩ = some (.slice A0_7 l0_7.length c0_7) := (blk_cell BK120.out 7).trans rfl
            have hfz74_0 := blk_frozen BK120.out 0
            have hfz74_1 := blk_frozen BK120.out 1
            have hfz74_2 := blk_frozen BK120.out 2
            have hfz74_3 := blk_frozen BK120.out 3
            have hfz74_4 := blk_frozen BK120.out 4
            have hfz74_5 := blk_frozen BK120.out 5
            have hfz74_6 := blk_frozen BK120.out 6
            have hfz74_7 := blk_frozen BK120.out 7
            go_wp2
            go_ret
            exact ⟨by first | rfl | (simp [errW_none, errW_some] <;> rfl) | (simp [*, errW_none, errW_some] <;> rfl) | (refine L.ret_bool ?_; rw [Bool.eq_iff_iff]; simp; done) | (refine L.ret_bool ?_; rw [Bool.eq_iff_iff]; simp [*]; done), by repeat (first | (with_reducible first | exact HB.out | apply below_alloc | apply pw_below_drewN | apply below_drew1 | refine below_set ?_ GE120.out) | exact HB.out)⟩
          ·rw [if_neg c71] at H
           have c71b0 : (a0_0 == 4) = false := beq_eq_false_iff_ne.mpr c71
           have c71b1 : (a0_0 != 4) = true := bne_iff_ne.mpr c71
           obtain rfl := Option.some.inj H
           have hcz75_0 : wc.cell? ⟨gb120, 0, none⟩ = some (.int .i64 a0_0) := (blk_cell BK120.out 0).trans rfl
           have hcz75_1 : wc.cell? ⟨gb120, 1, none⟩ = some (.int .i64 a0_1) := (blk_cell BK120.out 1).trans rfl
           have hcz75_2 : wc.cell? ⟨gb120, 2, none⟩ = some (.int .i64 a0_2) := (blk_cell BK120.out 2).trans rfl
           have hcz75_3 : wc.cell? ⟨gb120, 3, none⟩ = some (.int .i64 a0_3) := (blk_cell BK120.out 3).trans rfl
           have hcz75_4 : wc.cell? ⟨gb120, 4, none⟩ = some (.int .i64 a0_4) := (blk_cell BK120.out 4).trans rfl
           have hcz75_5 : wc.cell? ⟨gb120, 5, none⟩ = some (.string a0_5) := (blk_cell BK120.out 5).trans rfl
           have hcz75_6 : wc.cell? ⟨gb120, 6, none⟩ = some (.string a0_6) := (blk_cell BK120.out 6).trans rfl
           have hcz75_7 : wc.cell? ⟨gb120, 7, none⟩ = some (.slice A0_7 l0_7.length c0_7) := (blk_cell BK120.out 7).trans rfl
           have hfz75_0 := blk_frozen BK120.out 0
           have hfz75_1 := blk_frozen BK120.out 1
           have hfz75_2 := blk_frozen BK120.out 2
           have hfz75_3 := blk_frozen BK120.out 3
           have hfz75_4 := blk_frozen BK120.out 4
           have hfz75_5 := blk_frozen BK120.out 5
           have hfz75_6 := blk_frozen BK120.out 6
           have hfz75_7 := blk_frozen BK120.out 7
           go_wp2
           go_ret
           exact ⟨by first | rfl | (simp [errW_none, errW_some] <;> rfl) | (simp [*, errW_none, errW_some] <;> rfl) | (refine L.ret_bool ?_; rw [Bool.eq_iff_iff]; simp; done) | (refine L.ret_bool ?_; rw [Bool.eq_iff_iff]; simp [*]; done), by repeat (first | (with_reducible first | exact HB.out | apply below_alloc | apply pw_below_drewN | apply below_drew1 | refine below_set ?_ GE120.out) | exact HB.out)⟩

end Go.Proofs.Ytbbpjjbgdemmpaa.PCallChecks
