-- Written by a program of this session: the printer, with contracts put in that were proved by hand. Lean checks it.
import Derived.Test.YteoklaofbdfjlaaPEffectChecksx7d
namespace Go.Proofs.Yteoklaofbdfjlaa.PEffectChecks
open Go.RowKit Go.Proofs.YteoklaofbdfjlaaW.PrintWords Go.Proofs.YteoklaofbdfjlaaW.PrintLast Go.Proofs.YteoklaofbdfjlaaW.PrintMore
attribute [local go_sem] L.setCell_drewN max2_int min2_int max_two min_two max_three min_three max_four min_four   -- for this text's walks alone
set_option linter.unusedVariables false
set_option linter.unusedSimpArgs false

set_option maxHeartbeats 8000000 in
set_option maxRecDepth 100000 in
theorem sumpref09_Check.calls (k : Nat) (a0_0 : Int) (a0_1 : Int) (a0_2 : Int) (a0_3 : Int) (a0_4 : Int) (a0_5 : Int) (a0_6 : ByteArray) (a0_7 : ByteArray) (A0_8 : Option Addr) (c0_8 : Nat) (l0_8 : List Int) (r : Int) (w : World) (hr0_8 : Kd.C (Kd.int .u8) w A0_8 l0_8.length l0_8) (hc0_8 : l0_8.length ≤ c0_8) (h : sumpref09_Check.f k a0_0 a0_1 a0_2 a0_3 a0_4 a0_5 a0_6 a0_7 l0_8 = some r) :
  Calls Try.prog 15 #[.agg #[.int .i64 a0_0, .int .i64 a0_1, .int .i64 a0_2, .int .i64 a0_3, .int .i64 a0_4, .int .i64 a0_5, .string a0_6, .string a0_7, .slice A0_8 l0_8.length c0_8]] w fun e w' => e = .returned (.int .i64 r) ∧ Below w.heap.size w w' := by
 have hu24 := Try.underlying24
 have HR0_8 := Aside0.mk hr0_8
 have HC0_8 := Aside0.mk hc0_8
 clear hr0_8 hc0_8
 have HB := Aside0.mk (Below.refl w.heap.size w)
 have H : ((sumpref09_number.f a0_2).bind fun t133 => (if t133 = true then ((sumpref01_Name.f k a0_6).bind fun t134 => (sumpref09_Check.j0 k (t134 == 0) a0_0 a0_1 a0_2 a0_3 a0_4 a0_5 a0_6 a0_7 l0_8)) else (sumpref09_Check.j0 k false a0_0 a0_1 a0_2 a0_3 a0_4 a0_5 a0_6 a0_7 l0_8))) = some r := h
 clear h
 have HC2 := Aside0.mk H
 clear H
 go_enter Try.func15, Try.ntmps15
 go_upto_region 1 with (first | ((with_reducible refine gate_dst (N := 1) rfl ?_); (try (refine gate_guard (by rfl) ?_; dsimp only)); refine box_event ?hg (N := 1) ?hd (cs := #[.int .i64 a0_0, .int .i64 a0_1, .int .i64 a0_2, .int .i64 a0_3, .int .i64 a0_4, .int .i64 a0_5, .string a0_6, .string a0_7, .slice A0_8 l0_8.length c0_8]) (t := 24) ?hr ?_; (case hd => rfl); (case hg => rfl); (case hr => first | (go_simp; done) | (go_simp; rfl)); intro gb132 hg w3 hbox hb; have n0_ := Aside0.mk (below_step (by repeat (first | (with_reducible first | exact HB.out | apply below_alloc | apply pw_below_drewN | apply below_drew1) | exact HB.out)) hb); have n1_ := Aside0.mk (hbox); have n2_ := Aside0.mk ((by rw [hg]; exact (below_size (by repeat (first | (with_reducible first | exact HB.out | apply below_alloc | apply pw_below_drewN | apply below_drew1) | exact HB.out))) : w.heap.size ≤ gb132)); have n3_ := Aside0.mk ((by rw [hg]; exact (below_size (by repeat (first | (with_reducible first | exact HB.out | apply below_alloc | apply pw_below_drewN | apply below_drew1) | exact HB.out))) : w.heap.size ≤ gb132)); clear HB; have HB := n0_; have BK132 := n1_; have GW132 := n2_; have GE132 := n3_; clear n0_ n1_ n2_ n3_; clear hb hbox hg))
 (try simp only [Act.put, List.setIfInBounds_toArray, List.set_cons_zero, List.set_cons_succ])
 go_cut [3] (fun v3 wc => ∃ (kq : Nat) (x3_1 : Bool), v3 = .bool x3_1 ∧ Aside0 (sumpref09_Check.j0 kq x3_1 a0_0 a0_1 a0_2 a0_3 a0_4 a0_5 a0_6 a0_7 l0_8 = some r) ∧ Aside0 (kq ≤ k) ∧ Aside0 (wc.heap[gb132]? = some (.cells #[.int .i64 a0_0, .int .i64 a0_1, .int .i64 a0_2, .int .i64 a0_3, .int .i64 a0_4, .int .i64 a0_5, .string a0_6, .string a0_7, (.slice A0_8 l0_8.length c0_8)] 24 (0, 0))) ∧ Aside0 (Below w.heap.size w wc))
 case first => as_aux_lemma =>
  have H := HC2.out
  clear HC2
  replace H := Option.bind_eq_some_iff.mp H
  obtain ⟨t133, A40, H⟩ := H
  replace H : (if t133 = true then ((sumpref01_Name.f k a0_6).bind fun t134 => (sumpref09_Check.j0 k (t134 == 0) a0_0 a0_1 a0_2 a0_3 a0_4 a0_5 a0_6 a0_7 l0_8)) else (sumpref09_Check.j0 k false a0_0 a0_1 a0_2 a0_3 a0_4 a0_5 a0_6 a0_7 l0_8)) = some r := H
  have A4 := Aside0.mk A40
  clear A40
  by_cases c5 : t133 = true
  ·subst c5
   have H1 : ((sumpref01_Name.f k a0_6).bind fun t134 => (sumpref09_Check.j0 k (t134 == 0) a0_0 a0_1 a0_2 a0_3 a0_4 a0_5 a0_6 a0_7 l0_8)) = some r := by rw [if_pos rfl] at H; exact H
   clear H
   have H := H1
   clear H1
   replace H := Option.bind_eq_some_iff.mp H
   obtain ⟨t134, A60, H⟩ := H
   replace H : (sumpref09_Check.j0 k (t134 == 0) a0_0 a0_1 a0_2 a0_3 a0_4 a0_5 a0_6 a0_7 l0_8) = some r := H
   have A6 := Aside0.mk A60
   clear A60
   have H' := Aside0.mk H
   clear H
   have hcz7_0 : w3.cell? ⟨gb132, 0, none⟩ = some (.int .i64 a0_0) := (blk_cell BK132.out 0).trans rfl
   have hcz7_1 : w3.cell? ⟨gb132, 1, none⟩ = some (.int .i64 a0_1) := (blk_cell BK132.out 1).trans rfl
   have hcz7_2 : w3.cell? ⟨gb132, 2, none⟩ = some (.int .i64 a0_2) := (blk_cell BK132.out 2).trans rfl
   have hcz7_3 : w3.cell? ⟨gb132, 3, none⟩ = some (.int .i64 a0_3) := (blk_cell BK132.out 3).trans rfl
   have hcz7_4 : w3.cell? ⟨gb132, 4, none⟩ = some (.int .i64 a0_4) := (blk_cell BK132.out 4).trans rfl
   have hcz7_5 : w3.cell? ⟨gb132, 5, none⟩ = some (.int .i64 a0_5) := (blk_cell BK132.out 5).trans rfl
   have hcz7_6 : w3.cell? ⟨gb132, 6, none⟩ = some (.string a0_6) := (blk_cell BK132.out 6).trans rfl
   have hcz7_7 : w3.cell? ⟨gb132, 7, none⟩ = some (.string a0_7) := (blk_cell BK132.out 7).trans rfl
   have hcz7_8 : w3.cell? ⟨gb132, 8, none⟩ = some (.slice A0_8 l0_8.length c0_8) := (blk_cell BK132.out 8).trans rfl
   have hfz7_0 := blk_frozen BK132.out 0
   have hfz7_1 := blk_frozen BK132.out 1
   have hfz7_2 := blk_frozen BK132.out 2
   have hfz7_3 := blk_frozen BK132.out 3
   have hfz7_4 := blk_frozen BK132.out 4
   have hfz7_5 := blk_frozen BK132.out 5
   have hfz7_6 := blk_frozen BK132.out 6
   have hfz7_7 := blk_frozen BK132.out 7
   have hfz7_8 := blk_frozen BK132.out 8
   go_wp2_with (first | ((with_reducible refine gate_callee (f := 53) rfl ?_); refine goesL_ (some 10) rfl rfl Try.func53 (by kernel_rfl) rfl #[.int .i64 a0_2] rfl (by (try simp only [List.map_toArray, List.map_cons, List.map_nil]); first | done | rfl | (simp only [List.length_drop, List.length_take]; rfl)) ?_; (with_reducible refine (sumpref09_number.calls a0_2 true _ A4.out).mono ?_); rintro e w' ⟨rfl, ⟨nd, rfl⟩⟩; refine ⟨_, rfl, ?_⟩) | (go_at_call 28; (with_reducible refine (sumpref01_Name.calls k a0_6 t134 _ A6.out).mono ?_); rintro e w' ⟨rfl, ⟨nd, rfl⟩⟩))
   go_meet
   case rel => exact ⟨_, ((t134 == 0)), (by first | rfl | (simp; done) | (simp [*]; done)), H', ⟨by first | omega | exact Nat.le_refl _⟩, ⟨by (with_reducible repeat (first | refine blk_drewN ?_ _ | refine blk_drew ?_ | refine blk_alloc ?_ _)); exact BK132.out⟩, ⟨by repeat (first | (with_reducible first | exact HB.out | apply below_alloc | apply pw_below_drewN | apply below_drew1 | refine below_set ?_ GE132.out) | exact HB.out)⟩⟩
  ·replace c5 := Bool.eq_false_iff.mpr c5
   subst c5
   have H1 : (sumpref09_Check.j0 k false a0_0 a0_1 a0_2 a0_3 a0_4 a0_5 a0_6 a0_7 l0_8) = some r := by rw [if_neg (show ¬ (false = true) by decide)] at H; exact H
   clear H
   have H := H1
   clear H1
   have H' := Aside0.mk H
   clear H
   have hcz8_0 : w3.cell? ⟨gb132, 0, none⟩ = some (.int .i64 a0_0) := (blk_cell BK132.out 0).trans rfl
   have hcz8_1 : w3.cell? ⟨gb132, 1, none⟩ = some (.int .i64 a0_1) := (blk_cell BK132.out 1).trans rfl
   have hcz8_2 : w3.cell? ⟨gb132, 2, none⟩ = some (.int .i64 a0_2) := (blk_cell BK132.out 2).trans rfl
   have hcz8_3 : w3.cell? ⟨gb132, 3, none⟩ = some (.int .i64 a0_3) := (blk_cell BK132.out 3).trans rfl
   have hcz8_4 : w3.cell? ⟨gb132, 4, none⟩ = some (.int .i64 a0_4) := (blk_cell BK132.out 4).trans rfl
   have hcz8_5 : w3.cell? ⟨gb132, 5, none⟩ = some (.int .i64 a0_5) := (blk_cell BK132.out 5).trans rfl
   have hcz8_6 : w3.cell? ⟨gb132, 6, none⟩ = some (.string a0_6) := (blk_cell BK132.out 6).trans rfl
   have hcz8_7 : w3.cell? ⟨gb132, 7, none⟩ = some (.string a0_7) := (blk_cell BK132.out 7).trans rfl
   have hcz8_8 : w3.cell? ⟨gb132, 8, none⟩ = some (.slice A0_8 l0_8.length c0_8) := (blk_cell BK132.out 8).trans rfl
   have hfz8_0 := blk_frozen BK132.out 0
   have hfz8_1 := blk_frozen BK132.out 1
   have hfz8_2 := blk_frozen BK132.out 2
   have hfz8_3 := blk_frozen BK132.out 3
   have hfz8_4 := blk_frozen BK132.out 4
   have hfz8_5 := blk_frozen BK132.out 5
   have hfz8_6 := blk_frozen BK132.out 6
   have hfz8_7 := blk_frozen BK132.out 7
   have hfz8_8 := blk_frozen BK132.out 8
   go_wp2_with (first | ((with_reducible refine gate_callee (f := 53) rfl ?_); refine goesL_ (some 10) rfl rfl Try.func53 (by kernel_rfl) rfl #[.int .i64 a0_2] rfl (by (try simp only [List.map_toArray, List.map_cons, List.map_nil]); first | done | rfl | (simp only [List.length_drop, List.length_take]; rfl)) ?_; (with_reducible refine (sumpref09_number.calls a0_2 false _ A4.out).mono ?_); rintro e w' ⟨rfl, ⟨nd, rfl⟩⟩; refine ⟨_, rfl, ?_⟩))
   go_meet
   case rel => exact ⟨_, (false), (by first | rfl | (simp; done) | (simp [*]; done)), H', ⟨by first | omega | exact Nat.le_refl _⟩, ⟨by (with_reducible repeat (first | refine blk_drewN ?_ _ | refine blk_drew ?_ | refine blk_alloc ?_ _)); exact BK132.out⟩, ⟨by repeat (first | (with_reducible first | exact HB.out | apply below_alloc | apply pw_below_drewN | apply below_drew1 | refine below_set ?_ GE132.out) | exact HB.out)⟩⟩
 case rest => as_aux_lemma =>
  clear HC2
  try clear c1
  try clear p2
  try clear c5
  obtain ⟨kq, x3_1, rfl, HA, HJ1, BK132, HB⟩ := hcut
  cases kq with
  | zero => exact absurd HA.out (by simp [sumpref09_Check.j0])
  | succ kj1 =>
   have H := HA.out
   clear HA
   simp only [sumpref09_Check.j0] at H
   have HC9 := Aside0.mk H
   clear H
   go_upto_region 2 with (fail)
   go_cut [4] (fun v4 wc => ∃ (kq : Nat) (x4_8 : Bool), v4 = .bool x4_8 ∧ Aside0 (sumpref09_Check.j1 kq x3_1 x4_8 a0_0 a0_1 a0_2 a0_3 a0_4 a0_5 a0_6 a0_7 l0_8 = some r) ∧ Aside0 (kq ≤ kj1) ∧ Aside0 (wc.heap[gb132]? = some (.cells #[.int .i64 a0_0, .int .i64 a0_1, .int .i64 a0_2, .int .i64 a0_3, .int .i64 a0_4, .int .i64 a0_5, .string a0_6, .string a0_7, (.slice A0_8 l0_8.length c0_8)] 24 (0, 0))) ∧ Aside0 (Below w.heap.size w wc))
   case first => as_aux_lemma =>
    have H := HC9.out
    clear HC9
    by_cases c10 : a0_2 = 0
    ·rw [if_pos c10] at H
     have c10b0 : (a0_2 == 0) = true := beq_iff_eq.mpr c10
     have c10b1 : (a0_2 != 0) = false := bne_eq_false_iff_eq.mpr c10
     clear c10
     (first | rw [c10b0] | (simp only [i64_w, i32_w]; rw [c10b0]) | skip)
     have H' := Aside0.mk H
     clear H
     have hcz11_0 : wc.cell? ⟨gb132, 0, none⟩ = some (.int .i64 a0_0) := (blk_cell BK132.out 0).trans rfl
     have hcz11_1 : wc.cell? ⟨gb132, 1, none⟩ = some (.int .i64 a0_1) := (blk_cell BK132.out 1).trans rfl
     have hcz11_2 : wc.cell? ⟨gb132, 2, none⟩ = some (.int .i64 a0_2) := (blk_cell BK132.out 2).trans rfl
     have hcz11_3 : wc.cell? ⟨gb132, 3, none⟩ = some (.int .i64 a0_3) := (blk_cell BK132.out 3).trans rfl
     have hcz11_4 : wc.cell? ⟨gb132, 4, none⟩ = some (.int .i64 a0_4) := (blk_cell BK132.out 4).trans rfl
     have hcz11_5 : wc.cell? ⟨gb132, 5, none⟩ = some (.int .i64 a0_5) := (blk_cell BK132.out 5).trans rfl
     have hcz11_6 : wc.cell? ⟨gb132, 6, none⟩ = some (.string a0_6) := (blk_cell BK132.out 6).trans rfl
     have hcz11_7 : wc.cell? ⟨gb132, 7, none⟩ = some (.string a0_7) := (blk_cell BK132.out 7).trans rfl
     have hcz11_8 : wc.cell? ⟨gb132, 8, none⟩ = some (.slice A0_8 l0_8.length c0_8) := (blk_cell BK132.out 8).trans rfl
     have hfz11_0 := blk_frozen BK132.out 0
     have hfz11_1 := blk_frozen BK132.out 1
     have hfz11_2 := blk_frozen BK132.out 2
     have hfz11_3 := blk_frozen BK132.out 3
     have hfz11_4 := blk_frozen BK132.out 4
     have hfz11_5 := blk_frozen BK132.out 5
     have hfz11_6 := blk_frozen BK132.out 6
     have hfz11_7 := blk_frozen BK132.out 7
     have hfz11_8 := blk_frozen BK132.out 8
     go_wp2
     go_meet
     case rel => exact ⟨_, ((a0_6.toList == ([] : List UInt8))), (by first | rfl | (simp; done) | (simp [*]; done)), H', ⟨by have := HJ1.out; first | omega | exact Nat.le_refl _⟩, ⟨by (with_reducible repeat (first | refine blk_drewN ?_ _ | refine blk_drew ?_ | refine blk_alloc ?_ _)); exact BK132.out⟩, ⟨by repeat (first | (with_reducible first | exact HB.out | apply below_alloc | apply pw_below_drewN | apply below_drew1 | refine below_set ?_ GE132.out) | exact HB.out)⟩⟩
    ·rw [if_neg c10] at H
     have c10b0 : (a0_2 == 0) = false := beq_eq_false_iff_ne.mpr c10
     have c10b1 : (a0_2 != 0) = true := bne_iff_ne.mpr c10
     (first | rw [c10b0] | (simp only [i64_w, i32_w]; rw [c10b0]) | skip)
     have H' := Aside0.mk H
     clear H
     have hcz12_0 : wc.cell? ⟨gb132, 0, none⟩ = some (.int .i64 a0_0) := (blk_cell BK132.out 0).trans rfl
     have hcz12_1 : wc.cell? ⟨gb132, 1, none⟩ = some (.int .i64 a0_1) := (blk_cell BK132.out 1).trans rfl
     have hcz12_2 : wc.cell? ⟨gb132, 2, none⟩ = some (.int .i64 a0_2) := (blk_cell BK132.out 2).trans rfl
     have hcz12_3 : wc.cell? ⟨gb132, 3, none⟩ = some (.int .i64 a0_3) := (blk_cell BK132.out 3).trans rfl
     have hcz12_4 : wc.cell? ⟨gb132, 4, none⟩ = some (.int .i64 a0_4) := (blk_cell BK132.out 4).trans rfl
     have hcz12_5 : wc.cell? ⟨gb132, 5, none⟩ = some (.int .i64 a0_5) := (blk_cell BK132.out 5).trans rfl
     have hcz12_6 : wc.cell? ⟨gb132, 6, none⟩ = some (.string a0_6) := (blk_cell BK132.out 6).trans rfl
     have hcz12_7 : wc.cell? ⟨gb132, 7, none⟩ = some (.string a0_7) := (blk_cell BK132.out 7).trans rfl
     have hcz12_8 : wc.cell? ⟨gb132, 8, none⟩ = some (.slice A0_8 l0_8.length c0_8) := (blk_cell BK132.out 8).trans rfl
     have hfz12_0 := blk_frozen BK132.out 0
     have hfz12_1 := blk_frozen BK132.out 1
     have hfz12_2 := blk_frozen BK132.out 2
     have hfz12_3 := blk_frozen BK132.out 3
     have hfz12_4 := blk_frozen BK132.out 4
     have hfz12_5 := blk_frozen BK132.out 5
     have hfz12_6 := blk_frozen BK132.out 6
     have hfz12_7 := blk_frozen BK132.out 7
     have hfz12_8 := blk_frozen BK132.out 8
     go_wp2
     go_meet
     case rel => exact ⟨_, (false), (by first | rfl | (simp; done) | (simp [*]; done)), H', ⟨by have := HJ1.out; first | omega | exact Nat.le_refl _⟩, ⟨by (with_reducible repeat (first | refine blk_drewN ?_ _ | refine blk_drew ?_ | refine blk_alloc ?_ _)); exact BK132.out⟩, ⟨by repeat (first | (with_reducible first | exact HB.out | apply below_alloc | apply pw_below_drewN | apply below_drew1 | refine below_set ?_ GE132.out) | exact HB.out)⟩⟩
   case rest => as_aux_lemma =>
    clear HC9
    try clear c1
    try clear p2
    try clear c5
    try clear c10
    try clear c10b0
    try clear c10b1
    try clear p2
    obtain ⟨kq, x4_8, rfl, HA, HJ8, BK132, HB⟩ := hcut
    cases kq with
    | zero => exact absurd HA.out (by simp [sumpref09_Check.j1])
    | succ kj8 =>
     have H := HA.out
     clear HA
     simp only [sumpref09_Check.j1] at H
     have HC13 := Aside0.mk H
     clear H
     go_upto_region 3 with (fail)
     go_cut [5] (fun v5 wc => ∃ (kq : Nat) (x5_12 : Bool), v5 = .bool x5_12 ∧ Aside0 (sumpref09_Check.j2 kq x3_1 x4_8 x5_12 a0_0 a0_1 a0_2 a0_3 a0_4 a0_5 a0_6 a0_7 l0_8 = some r) ∧ Aside0 (kq ≤ kj8) ∧ Aside0 (wc.heap[gb132]? = some (.cells #[.int .i64 a0_0, .int .i64 a0_1, .int .i64 a0_2, .int .i64 a0_3, .int .i64 a0_4, .int .i64 a0_5, .string a0_6, .string a0_7, (.slice A0_8 l0_8.length c0_8)] 24 (0, 0))) ∧ Aside0 (Below w.heap.size w wc))
     case first => as_aux_lemma =>
      have H := HC13.out
      clear HC13
      by_cases c14 : a0_3 = 0
      ·rw [if_pos c14] at H
       have c14b0 : (a0_3 == 0) = true := beq_iff_eq.mpr c14
       have c14b1 : (a0_3 != 0) = false := bne_eq_false_iff_eq.mpr c14
       clear c14
       (first | rw [c14b0] | (simp only [i64_w, i32_w]; rw [c14b0]) | skip)
       have H' := Aside0.mk H
       clear H
       have hcz15_0 : wc.cell? ⟨gb132, 0, none⟩ = some (.int .i64 a0_0) := (blk_cell BK132.out 0).trans rfl
       have hcz15_1 : wc.cell? ⟨gb132, 1, none⟩ = some (.int .i64 a0_1) := (blk_cell BK132.out 1).trans rfl
       have hcz15_2 : wc.cell? ⟨gb132, 2, none⟩ = some (.int .i64 a0_2) := (blk_cell BK132.out 2).trans rfl
       have hcz15_3 : wc.cell? ⟨gb132, 3, none⟩ = some (.int .i64 a0_3) := (blk_cell BK132.out 3).trans rfl
       have hcz15_4 : wc.cell? ⟨gb132, 4, none⟩ = some (.int .i64 a0_4) := (blk_cell BK132.out 4).trans rfl
       have hcz15_5 : wc.cell? ⟨gb132, 5, none⟩ = some (.int .i64 a0_5) := (blk_cell BK132.out 5).trans rfl
       have hcz15_6 : wc.cell? ⟨gb132, 6, none⟩ = some (.string a0_6) := (blk_cell BK132.out 6).trans rfl
       have hcz15_7 : wc.cell? ⟨gb132, 7, none⟩ = some (.string a0_7) := (blk_cell BK132.out 7).trans rfl
       have hcz15_8 : wc.cell? ⟨gb132, 8, none⟩ = some (.slice A0_8 l0_8.length c0_8) := (blk_cell BK132.out 8).trans rfl
       have hfz15_0 := blk_frozen BK132.out 0
       have hfz15_1 := blk_frozen BK132.out 1
       have hfz15_2 := blk_frozen BK132.out 2
       have hfz15_3 := blk_frozen BK132.out 3
       have hfz15_4 := blk_frozen BK132.out 4
       have hfz15_5 := blk_frozen BK132.out 5
       have hfz15_6 := blk_frozen BK132.out 6
       have hfz15_7 := blk_frozen BK132.out 7
       have hfz15_8 := blk_frozen BK132.out 8
       go_wp2
       go_meet
       case rel => exact ⟨_, ((a0_7.toList == ([] : List UInt8))), (by first | rfl | (simp; done) | (simp [*]; done)), H', ⟨by have := HJ1.out; have := HJ8.out; first | omega | exact Nat.le_refl _⟩, ⟨by (with_reducible repeat (first | refine blk_drewN ?_ _ | refine blk_drew ?_ | refine blk_alloc ?_ _)); exact BK132.out⟩, ⟨by repeat (first | (with_reducible first | exact HB.out | apply below_alloc | apply pw_below_drewN | apply below_drew1 | refine below_set ?_ GE132.out) | exact HB.out)⟩⟩
      ·rw [if_neg c14] at H
       have c14b0 : (a0_3 == 0) = false := beq_eq_false_iff_ne.mpr c14
       have c14b1 : (a0_3 != 0) = true := bne_iff_ne.mpr c14
       (first | rw [c14b0] | (simp only [i64_w, i32_w]; rw [c14b0]) | skip)
       have H' := Aside0.mk H
       clear H
       have hcz16_0 : wc.cell? ⟨gb132, 0, none⟩ = some (.int .i64 a0_0) := (blk_cell BK132.out 0).trans rfl
       have hcz16_1 : wc.cell? ⟨gb132, 1, none⟩ = some (.int .i64 a0_1) := (blk_cell BK132.out 1).trans rfl
       have hcz16_2 : wc.cell? ⟨gb132, 2, none⟩ = some (.int .i64 a0_2) := (blk_cell BK132.out 2).trans rfl
       have hcz16_3 : wc.cell? ⟨gb132, 3, none⟩ = some (.int .i64 a0_3) := (blk_cell BK132.out 3).trans rfl
       have hcz16_4 : wc.cell? ⟨gb132, 4, none⟩ = some (.int .i64 a0_4) := (blk_cell BK132.out 4).trans rfl
       have hcz16_5 : wc.cell? ⟨gb132, 5, none⟩ = some (.int .i64 a0_5) := (blk_cell BK132.out 5).trans rfl
       have hcz16_6 : wc.cell? ⟨gb132, 6, none⟩ = some (.string a0_6) := (blk_cell BK132.out 6).trans rfl
       have hcz16_7 : wc.cell? ⟨gb132, 7, none⟩ = some (.string a0_7) := (blk_cell BK132.out 7).trans rfl
       have hcz16_8 : wc.cell? ⟨gb132, 8, none⟩ = some (.slice A0_8 l0_8.length c0_8) := (blk_cell BK132.out 8).trans rfl
       have hfz16_0 := blk_frozen BK132.out 0
       have hfz16_1 := blk_frozen BK132.out 1
       have hfz16_2 := blk_frozen BK132.out 2
       have hfz16_3 := blk_frozen BK132.out 3
       have hfz16_4 := blk_frozen BK132.out 4
       have hfz16_5 := blk_frozen BK132.out 5
       have hfz16_6 := blk_frozen BK132.out 6
       have hfz16_7 := blk_frozen BK132.out 7
       have hfz16_8 := blk_frozen BK132.out 8
       go_wp2
       go_meet
       case rel => exact ⟨_, (false), (by first | rfl | (simp; done) | (simp [*]; done)), H', ⟨by have := HJ1.out; have := HJ8.out; first | omega | exact Nat.le_refl _⟩, ⟨by (with_reducible repeat (first | refine blk_drewN ?_ _ | refine blk_drew ?_ | refine blk_alloc ?_ _)); exact BK132.out⟩, ⟨by repeat (first | (with_reducible first | exact HB.out | apply below_alloc | apply pw_below_drewN | apply below_drew1 | refine below_set ?_ GE132.out) | exact HB.out)⟩⟩
     case rest => as_aux_lemma =>
      clear HC13
      try clear c1
      try clear p2
      try clear c5
      try clear c10
      try clear c10b0
      try clear c10b1
      try clear c14
      try clear c14b0
      try clear c14b1
      try clear c15
      try clear p2
      obtain ⟨kq, x5_12, rfl, HA, HJ12, BK132, HB⟩ := hcut
      cases kq with
      | zero => exact absurd HA.out (by simp [sumpref09_Check.j2])
      | succ kj12 =>
       have H := HA.out
       clear HA
       simp only [sumpref09_Check.j2] at H
       by_cases c17 : a0_0 = 1
       ·rw [if_pos c17] at H
        have c17b0 : (a0_0 == 1) = true := beq_iff_eq.mpr c17
        have c17b1 : (a0_0 != 1) = false := bne_eq_false_iff_eq.mpr c17
        clear c17
        by_cases c18 : x3_1 = true
        ·subst c18
         have H1 : (if x5_12 = true then (if (l0_8.length : Int) = 0 then (if a0_4 = 1 then (if a0_5 = 0 then ((sumpref09_number.f a0_1).bind fun t135 => (if t135 = true then (some 0) else (some 92))) else (some 92)) else (if a0_4 = 2 then (if a0_5 = 0 then ((sumpref09_number.f a0_1).bind fun t136 => (if t136 = true then (some 0) else (some 92))) else (some 92)) else (some 92))) else (some 92)) else (some 92)) = some r := by rw [if_pos rfl] at H; exact H
         clear H
         have H := H1
         clear H1
         by_cases c19 : x5_12 = true
         ·subst c19
          have H1 : (if (l0_8.length : Int) = 0 then (if a0_4 = 1 then (if a0_5 = 0 then ((sumpref09_number.f a0_1).bind fun t135 => (if t135 = true then (some 0) else (some 92))) else (some 92)) else (if a0_4 = 2 then (if a0_5 = 0 then ((sumpref09_number.f a0_1).bind fun t136 => (if t136 = true then (some 0) else (some 92))) else (some 92)) else (some 92))) else (some 92)) = some r := by rw [if_pos rfl] at H; exact H
          clear H
          have H := H1
          clear H1
          by_cases c20 : (l0_8.length : Int) = 0
          ·rw [if_pos c20] at H
           have c20b0 : ((l0_8.length : Int) == 0) = true := beq_iff_eq.mpr c20
           have c20b1 : ((l0_8.length : Int) != 0) = false := bne_eq_false_iff_eq.mpr c20
           clear c20
           by_cases c21 : a0_4 = 1
           ·rw [if_pos c21] at H
            have c21b0 : (a0_4 == 1) = true := beq_iff_eq.mpr c21
            have c21b1 : (a0_4 != 1) = false := bne_eq_false_iff_eq.mpr c21
            clear c21
            by_cases c22 : a0_5 = 0
            ·rw [if_pos c22] at H
             have c22b0 : (a0_5 == 0) = true := beq_iff_eq.mpr c22
             have c22b1 : (a0_5 != 0) = false := bne_eq_false_iff_eq.mpr c22
             clear c22
             replace H := Option.bind_eq_some_iff.mp H
             obtain ⟨t135, A230, H⟩ := H
             replace H : (if t135 = true then (some 0) else (some 92)) = some r := H
             have A23 := Aside0.mk A230
             clear A230
             by_cases c24 : t135 = true
             ·subst c24
              have H1 : (some 0) = some r := by rw [if_pos rfl] at H; exact H
              clear H
              have H := H1
              clear H1
              obtain rfl := Option.some.inj H
              have hcz25_0 : wc.cell? ⟨gb132, 0, none⟩ = some (.int .i64 a0_0) := (blk_cell BK132.out 0).trans rfl
              have hcz25_1 : wc.cell? ⟨gb132, 1, none⟩ = some (.int .i64 a0_1) := (blk_cell BK132.out 1).trans rfl
              have hcz25_2 : wc.cell? ⟨gb132, 2, none⟩ = some (.int .i64 a0_2) := (blk_cell BK132.out 2).trans rfl
              have hcz25_3 : wc.cell? ⟨gb132, 3, none⟩ = some (.int .i64 a0_3) := (blk_cell BK132.out 3).trans rfl
              have hcz25_4 : wc.cell? ⟨gb132, 4, none⟩ = some (.int .i64 a0_4) := (blk_cell BK132.out 4).trans rfl
              have hcz25_5 : wc.cell? ⟨gb132, 5, none⟩ = some (.int .i64 a0_5) := (blk_cell BK132.out 5).trans rfl
              have hcz25_6 : wc.cell? ⟨gb132, 6, none⟩ = some (.string a0_6) := (blk_cell BK132.out 6).trans rfl
              have hcz25_7 : wc.cell? ⟨gb132, 7, none⟩ = some (.string a0_7) := (blk_cell BK132.out 7).trans rfl
              have hcz25_8 : wc.cell? ⟨gb132, 8, none⟩ = some (.slice A0_8 l0_8.length c0_8) := (blk_cell BK132.out 8).trans rfl
              have hfz25_0 := blk_frozen BK132.out 0
              have hfz25_1 := blk_frozen BK132.out 1
              have hfz25_2 := blk_frozen BK132.out 2
              have hfz25_3 := blk_frozen BK132.out 3
              have hfz25_4 := blk_frozen BK132.out 4
              have hfz25_5 := blk_frozen BK132.out 5
              have hfz25_6 := blk_frozen BK132.out 6
              have hfz25_7 := blk_frozen BK132.out 7
              have hfz25_8 := blk_frozen BK132.out 8
              go_wp2_with (first | (go_at_call 53; (with_reducible refine (sumpref09_number.calls a0_1 true _ A23.out).mono ?_); rintro e w' ⟨rfl, ⟨nd, rfl⟩⟩))
              go_ret
              exact ⟨by first | rfl | (simp [errW_none, errW_some] <;> rfl) | (simp [*, errW_none, errW_some] <;> rfl) | (refine L.ret_bool ?_; rw [Bool.eq_iff_iff]; simp; done) | (refine L.ret_bool ?_; rw [Bool.eq_iff_iff]; simp [*]; done), by repeat (first | (with_reducible first | exact HB.out | apply below_alloc | apply pw_below_drewN | apply below_drew1 | refine below_set ?_ GE132.out) | exact HB.out)⟩
             ·replace c24 := Bool.eq_false_iff.mpr c24
              subst c24
              have H1 : (some 92) = some r := by rw [if_neg (show ¬ (false = true) by decide)] at H; exact H
              clear H
              have H := H1
              clear H1
              obtain rfl := Option.some.inj H
              have hcz26_0 : wc.cell? ⟨gb132, 0, none⟩ = some (.int .i64 a0_0) := (blk_cell BK132.out 0).trans rfl
              have hcz26_1 : wc.cell? ⟨gb132, 1, none⟩ = some (.int .i64 a0_1) := (blk_cell BK132.out 1).trans rfl
              have hcz26_2 : wc.cell? ⟨gb132, 2, none⟩ = some (.int .i64 a0_2) := (blk_cell BK132.out 2).trans rfl
              have hcz26_3 : wc.cell? ⟨gb132, 3, none⟩ = some (.int .i64 a0_3) := (blk_cell BK132.out 3).trans rfl
              have hcz26_4 : wc.cell? ⟨gb132, 4, none⟩ = some (.int .i64 a0_4) := (blk_cell BK132.out 4).trans rfl
              have hcz26_5 : wc.cell? ⟨gb132, 5, none⟩ = some (.int .i64 a0_5) := (blk_cell BK132.out 5).trans rfl
              have hcz26_6 : wc.cell? ⟨gb132, 6, none⟩ = some (.string a0_6) := (blk_cell BK132.out 6).trans rfl
              have hcz26_7 : wc.cell? ⟨gb132, 7, none⟩ = some (.string a0_7) := (blk_cell BK132.out 7).trans rfl
              have hcz26_8 : wc.cell? ⟨gb132, 8, none⟩ = some (.slice A0_8 l0_8.length c0_8) := (blk_cell BK132.out 8).trans rfl
              have hfz26_0 := blk_frozen BK132.out 0
              have hfz26_1 := blk_frozen BK132.out 1
              have hfz26_2 := blk_frozen BK132.out 2
              have hfz26_3 := blk_frozen BK132.out 3
              have hfz26_4 := blk_frozen BK132.out 4
              have hfz26_5 := blk_frozen BK132.out 5
              have hfz26_6 := blk_frozen BK132.out 6
              have hfz26_7 := blk_frozen BK132.out 7
              have hfz26_8 := blk_frozen BK132.out 8
              go_wp2_with (first | (go_at_call 53; (with_reducible refine (sumpref09_number.calls a0_1 false _ A23.out).mono ?_); rintro e w' ⟨rfl, ⟨nd, rfl⟩⟩))
              go_ret
              exact ⟨by first | rfl | (simp [errW_none, errW_some] <;> rfl) | (simp [*, errW_none, errW_some] <;> rfl) | (refine L.ret_bool ?_; rw [Bool.eq_iff_iff]; simp; done) | (refine L.ret_bool ?_; rw [Bool.eq_iff_iff]; simp [*]; done), by repeat (first | (with_reducible first | exact HB.out | apply below_alloc | apply pw_below_drewN | apply below_drew1 | refine below_set ?_ GE132.out) | exact HB.out)⟩
            ·rw [if_neg c22] at H
             have c22b0 : (a0_5 == 0) = false := beq_eq_false_iff_ne.mpr c22
             have c22b1 : (a0_5 != 0) = true := bne_iff_ne.mpr c22
             obtain rfl := Option.some.inj H
             have hcz27_0 : wc.cell? ⟨gb132, 0, none⟩ = some (.int .i64 a0_0) := (blk_cell BK132.out 0).trans rfl
             have hcz27_1 : wc.cell? ⟨gb132, 1, none⟩ = some (.int .i64 a0_1) := (blk_cell BK132.out 1).trans rfl
             have hcz27_2 : wc.cell? ⟨gb132, 2, none⟩ = some (.int .i64 a0_2) := (blk_cell BK132.out 2).trans rfl
             have hcz27_3 : wc.cell? ⟨gb132, 3, none⟩ = some (.int .i64 a0_3) := (blk_cell BK132.out 3).trans rfl
             have hcz27_4 : wc.cell? ⟨gb132, 4, none⟩ = some (.int .i64 a0_4) := (blk_cell BK132.out 4).trans rfl
             have hcz27_5 : wc.cell? ⟨gb132, 5, none⟩ = some (.int .i64 a0_5) := (blk_cell BK132.out 5).trans rfl
             have hcz27_6 : wc.cell? ⟨gb132, 6, none⟩ = some (.string a0_6) := (blk_cell BK132.out 6).trans rfl
             have hcz27_7 : wc.cell? ⟨gb132, 7, none⟩ = some (.string a0_7) := (blk_cell BK132.out 7).trans rfl
             have hcz27_8 : wc.cell? ⟨gb132, 8, none⟩ = some (.slice A0_8 l0_8.length c0_8) := (blk_cell BK132.out 8).trans rfl
             have hfz27_0 := blk_frozen BK132.out 0
             have hfz27_1 := blk_frozen BK132.out 1
             have hfz27_2 := blk_frozen BK132.out 2
             have hfz27_3 := blk_frozen BK132.out 3
             have hfz27_4 := blk_frozen BK132.out 4
             have hfz27_5 := blk_frozen BK132.out 5
             have hfz27_6 := blk_frozen BK132.out 6
             have hfz27_7 := blk_frozen BK132.out 7
             have hfz27_8 := blk_frozen BK132.out 8
             go_wp2
             go_ret
             exact ⟨by first | rfl | (simp [errW_none, errW_some] <;> rfl) | (simp [*, errW_none, errW_some] <;> rfl) | (refine L.ret_bool ?_; rw [Bool.eq_iff_iff]; simp; done) | (refine L.ret_bool ?_; rw [Bool.eq_iff_iff]; simp [*]; done), by repeat (first | (with_reducible first | exact HB.out | apply below_alloc | apply pw_below_drewN | apply below_drew1 | refine below_set ?_ GE132.out) | exact HB.out)⟩
           ·rw [if_neg c21] at H
            have c21b0 : (a0_4 == 1) = false := beq_eq_false_iff_ne.mpr c21
            have c21b1 : (a0_4 != 1) = true := bne_iff_ne.mpr c21
            by_cases c28 : a0_4 = 2
            ·rw [if_pos c28] at H
             have c28b0 : (a0_4 == 2) = true := beq_iff_eq.mpr c28
             have c28b1 : (a0_4 != 2) = false := bne_eq_false_iff_eq.mpr c28
             clear c28
             by_cases c29 : a0_5 = 0
             ·rw [if_pos c29] at H
              have c29b0 : (a0_5 == 0) = true := beq_iff_eq.mpr c29
              have c29b1 : (a0_5 != 0) = false := bne_eq_false_iff_eq.mpr c29
              clear c29
              replace H := Option.bind_eq_some_iff.mp H
              obtain ⟨t136, A300, H⟩ := H
              replace H : (if t136 = true then (some 0) else (some 92)) = some r := H
              have A30 := Aside0.mk A300
              clear A300
              by_cases c31 : t136 = true
              ·subst c31
               have H1 : (some 0) = some r := by rw [if_pos rfl] at H; exact H
               clear H
               have H := H1
               clear H1
               obtain rfl := Option.some.inj H
               have hcz32_0 : wc.cell? ⟨gb132, 0, none⟩ = some (.int .i64 a0_0) := (blk_cell BK132.out 0).trans rfl
               have hcz32_1 : wc.cell? ⟨gb132, 1, none⟩ = some (.int .i64 a0_1) := (blk_cell BK132.out 1).trans rfl
               have hcz32_2 : wc.cell? ⟨gb132, 2, none⟩ = some (.int .i64 a0_2) := (blk_cell BK132.out 2).trans rfl
               have hcz32_3 : wc.cell? ⟨gb132, 3, none⟩ = some (.int .i64 a0_3) := (blk_cell BK132.out 3).trans rfl
               have hcz32_4 : wc.cell? ⟨gb132, 4, none⟩ = some (.int .i64 a0_4) := (blk_cell BK132.out 4).trans rfl
               have hcz32_5 : wc.cell? ⟨gb132, 5, none⟩ = some (.int .i64 a0_5) := (blk_cell BK132.out 5).trans rfl
               have hcz32_6 : wc.cell? ⟨gb132, 6, none⟩ = some (.string a0_6) := (blk_cell BK132.out 6).trans rfl
               have hcz32_7 : wc.cell? ⟨gb132, 7, none⟩ = some (.string a0_7) := (blk_cell BK132.out 7).trans rfl
               have hcz32_8 : wc.cell? ⟨gb132, 8, none⟩ = some (.slice A0_8 l0_8.length c0_8) := (blk_cell BK132.out 8).trans rfl
               have hfz32_0 := blk_frozen BK132.out 0
               have hfz32_1 := blk_frozen BK132.out 1
               have hfz32_2 := blk_frozen BK132.out 2
               have hfz32_3 := blk_frozen BK132.out 3
               have hfz32_4 := blk_frozen BK132.out 4
               have hfz32_5 := blk_frozen BK132.out 5
               have hfz32_6 := blk_frozen BK132.out 6
               have hfz32_7 := blk_frozen BK132.out 7
               have hfz32_8 := blk_frozen BK132.out 8
               go_wp2_with (first | (go_at_call 53; (with_reducible refine (sumpref09_number.calls a0_1 true _ A30.out).mono ?_); rintro e w' ⟨rfl, ⟨nd, rfl⟩⟩))
               go_ret
               exact ⟨by first | rfl | (simp [errW_none, errW_some] <;> rfl) | (simp [*, errW_none, errW_some] <;> rfl) | (refine L.ret_bool ?_; rw [Bool.eq_iff_iff]; simp; done) | (refine L.ret_bool ?_; rw [Bool.eq_iff_iff]; simp [*]; done), by repeat (first | (with_reducible first | exact HB.out | apply below_alloc | apply pw_below_drewN | apply below_drew1 | refine below_set ?_ GE132.out) | exact HB.out)⟩
              ·replace c31 := Bool.eq_false_iff.mpr c31
               subst c31
               have H1 : (some 92) = some r := by rw [if_neg (show ¬ (false = true) by decide)] at H; exact H
               clear H
               have H := H1
               clear H1
               obtain rfl := Option.some.inj H
               have hcz33_0 : wc.cell? ⟨gb132, 0, none⟩ = some (.int .i64 a0_0) := (blk_cell BK132.out 0).trans rfl
               have hcz33_1 : wc.cell? ⟨gb132, 1, none⟩ = some (.int .i64 a0_1) := (blk_cell BK132.out 1).trans rfl
               have hcz33_2 : wc.cell? ⟨gb132, 2, none⟩ = some (.int .i64 a0_2) := (blk_cell BK132.out 2).trans rfl
               have hcz33_3 : wc.cell? ⟨gb132, 3, none⟩ = some (.int .i64 a0_3) := (blk_cell BK132.out 3).trans rfl
               have hcz33_4 : wc.cell? ⟨gb132, 4, none⟩ = some (.int .i64 a0_4) := (blk_cell BK132.out 4).trans rfl
               have hcz33_5 : wc.cell? ⟨gb132, 5, none⟩ = some (.int .i64 a0_5) := (blk_cell BK132.out 5).trans rfl
               have hcz33_6 : wc.cell? ⟨gb132, 6, none⟩ = some (.string a0_6) := (blk_cell BK132.out 6).trans rfl
               have hcz33_7 : wc.cell? ⟨gb132, 7, none⟩ = some (.string a0_7) := (blk_cell BK132.out 7).trans rfl
               have hcz33_8 : wc.cell? ⟨gb132, 8, none⟩ = some (.slice A0_8 l0_8.length c0_8) := (blk_cell BK132.out 8).trans rfl
               have hfz33_0 := blk_frozen BK132.out 0
               have hfz33_1 := blk_frozen BK132.out 1
               have hfz33_2 := blk_frozen BK132.out 2
               have hfz33_3 := blk_frozen BK132.out 3
               have hfz33_4 := blk_frozen BK132.out 4
               have hfz33_5 := blk_frozen BK132.out 5
               have hfz33_6 := blk_frozen BK132.out 6
               have hfz33_7 := blk_frozen BK132.out 7
               have hfz33_8 := blk_frozen BK132.out 8
               go_wp2_with (first | (go_at_call 53; (with_reducible refine (sumpref09_number.calls a0_1 false _ A30.out).mono ?_); rintro e w' ⟨rfl, ⟨nd, rfl⟩⟩))
               go_ret
               exact ⟨by first | rfl | (simp [errW_none, errW_some] <;> rfl) | (simp [*, errW_none, errW_some] <;> rfl) | (refine L.ret_bool ?_; rw [Bool.eq_iff_iff]; simp; done) | (refine L.ret_bool ?_; rw [Bool.eq_iff_iff]; simp [*]; done), by repeat (first | (with_reducible first | exact HB.out | apply below_alloc | apply pw_below_drewN | apply below_drew1 | refine below_set ?_ GE132.out) | exact HB.out)⟩
             ·rw [if_neg c29] at H
              have c29b0 : (a0_5 == 0) = false := beq_eq_false_iff_ne.mpr c29
              have c29b1 : (a0_5 != 0) = true := bne_iff_ne.mpr c29
              obtain rfl := Option.some.inj H
              have hcz34_0 : wc.cell? ⟨gb132, 0, none⟩ = some (.int .i64 a0_0) := (blk_cell BK132.out 0).trans rfl
              have hcz34_1 : wc.cell? ⟨gb132, 1, none⟩ = some (.int .i64 a0_1) := (blk_cell BK132.out 1).trans rfl
              have hcz34_2 : wc.cell? ⟨gb132, 2, none⟩ = some (.int .i64 a0_2) := (blk_cell BK132.out 2).trans rfl
              have hcz34_3 : wc.cell? ⟨gb132, 3, none⟩ = some (.int .i64 a0_3) := (blk_cell BK132.out 3).trans rfl
              have hcz34_4 : wc.cell? ⟨gb132, 4, none⟩ = some (.int .i64 a0_4) := (blk_cell BK132.out 4).trans rfl
              have hcz34_5 : wc.cell? ⟨gb132, 5, none⟩ = some (.int .i64 a0_5) := (blk_cell BK132.out 5).trans rfl
              have hcz34_6 : wc.cell? ⟨gb132, 6, none⟩ = some (.string a0_6) := (blk_cell BK132.out 6).trans rfl
              have hcz34_7 : wc.cell? ⟨gb132, 7, none⟩ = some (.string a0_7) := (blk_cell BK132.out 7).trans rfl
              have hcz34_8 : wc.cell? ⟨gb132, 8, none⟩ = some (.slice A0_8 l0_8.length c0_8) := (blk_cell BK132.out 8).trans rfl
              have hfz34_0 := blk_frozen BK132.out 0
              have hfz34_1 := blk_frozen BK132.out 1
              have hfz34_2 := blk_frozen BK132.out 2
              have hfz34_3 := blk_frozen BK132.out 3
              have hfz34_4 := blk_frozen BK132.out 4
              have hfz34_5 := blk_frozen BK132.out 5
              have hfz34_6 := blk_frozen BK132.out 6
              have hfz34_7 := blk_frozen BK132.out 7
              have hfz34_8 := blk_frozen BK132.out 8
              go_wp2
              go_ret
              exact ⟨by first | rfl | (simp [errW_none, errW_some] <;> rfl) | (simp [*, errW_none, errW_some] <;> rfl) | (refine L.ret_bool ?_; rw [Bool.eq_iff_iff]; simp; done) | (refine L.ret_bool ?_; rw [Bool.eq_iff_iff]; simp [*]; done), by repeat (first | (with_reducible first | exact HB.out | apply below_alloc | apply pw_below_drewN | apply below_drew1 | refine below_set ?_ GE132.out) | exact HB.out)⟩
            ·rw [if_neg c28] at H
             have c28b0 : (a0_4 == 2) = false := beq_eq_false_iff_ne.mpr c28
             have c28b1 : (a0_4 != 2) = true := bne_iff_ne.mpr c28
             obtain rfl := Option.some.inj H
             have hcz35_0 : wc.cell? ⟨gb132, 0, none⟩ = some (.int .i64 a0_0) := (blk_cell BK132.out 0).trans rfl
             have hcz35_1 : wc.cell? ⟨gb132, 1, none⟩ = some (.int .i64 a0_1) := (blk_cell BK132.out 1).trans rfl
             have hcz35_2 : wc.cell? ⟨gb132, 2, none⟩ = some (.int .i64 a0_2) := (blk_cell BK132.out 2).trans rfl
             have hcz35_3 : wc.cell? ⟨gb132, 3, none⟩ = some (.int .i64 a0_3) := (blk_cell BK132.out 3).trans rfl
             have hcz35_4 : wc.cell? ⟨gb132, 4, none⟩ = some (.int .i64 a0_4) := (blk_cell BK132.out 4).trans rfl
             have hcz35_5 : wc.cell? ⟨gb132, 5, none⟩ = some (.int .i64 a0_5) := (blk_cell BK132.out 5).trans rfl
             have hcz35_6 : wc.cell? ⟨gb132, 6, none⟩ = some (.string a0_6) := (blk_cell BK132.out 6).trans rfl
             have hcz35_7 : wc.cell? ⟨gb132, 7, none⟩ = some (.string a0_7) := (blk_cell BK132.out 7).trans rfl
             have hcz35_8 : wc.cell? ⟨gb132, 8, none⟩ = some (.slice A0_8 l0_8.length c0_8) := (blk_cell BK132.out 8).trans rfl
             have hfz35_0 := blk_frozen BK132.out 0
             have hfz35_1 := blk_frozen BK132.out 1
             have hfz35_2 := blk_frozen BK132.out 2
             have hfz35_3 := blk_frozen BK132.out 3
             have hfz35_4 := blk_frozen BK132.out 4
             have hfz35_5 := blk_frozen BK132.out 5
             have hfz35_6 := blk_frozen BK132.out 6
             have hfz35_7 := blk_frozen BK132.out 7
             have hfz35_8 := blk_frozen BK132.out 8
             go_wp2
             go_ret
             exact ⟨by first | rfl | (simp [errW_none, errW_some] <;> rfl) | (simp [*, errW_none, errW_some] <;> rfl) | (refine L.ret_bool ?_; rw [Bool.eq_iff_iff]; simp; done) | (refine L.ret_bool ?_; rw [Bool.eq_iff_iff]; simp [*]; done), by repeat (first | (with_reducible first | exact HB.out | apply below_alloc | apply pw_below_drewN | apply below_drew1 | refine below_set ?_ GE132.out) | exact HB.out)⟩
          ·rw [if_neg c20] at H
           have c20b0 : ((l0_8.length : Int) == 0) = false := beq_eq_false_iff_ne.mpr c20
           have c20b1 : ((l0_8.length : Int) != 0) = true := bne_iff_ne.mpr c20
           have c20b2 : ¬ (l0_8 = []) := fun h_ => c20 (by rw [h_]; rfl)
           obtain rfl := Option.some.inj H
           have hcz36_0 : wc.cell? ⟨gb132, 0, none⟩ = some (.int .i64 a0_0) := (blk_cell BK132.out 0).trans rfl
           have hcz36_1 : wc.cell? ⟨gb132, 1, none⟩ = some (.int .i64 a0_1) := (blk_cell BK132.out 1).trans rfl
           have hcz36_2 : wc.cell? ⟨gb132, 2, none⟩ = some (.int .i64 a0_2) := (blk_cell BK132.out 2).trans rfl
           have hcz36_3 : wc.cell? ⟨gb132, 3, none⟩ = some (.int .i64 a0_3) := (blk_cell BK132.out 3).trans rfl
           have hcz36_4 : wc.cell? ⟨gb132, 4, none⟩ = some (.int .i64 a0_4) := (blk_cell BK132.out 4).trans rfl
           have hcz36_5 : wc.cell? ⟨gb132, 5, none⟩ = some (.int .i64 a0_5) := (blk_cell BK132.out 5).trans rfl
           have hcz36_6 : wc.cell? ⟨gb132, 6, none⟩ = some (.string a0_6) := (blk_cell BK132.out 6).trans rfl
           have hcz36_7 : wc.cell? ⟨gb132, 7, none⟩ = some (.string a0_7) := (blk_cell BK132.out 7).trans rfl
           have hcz36_8 : wc.cell? ⟨gb132, 8, none⟩ = some (.slice A0_8 l0_8.length c0_8) := (blk_cell BK132.out 8).trans rfl
           have hfz36_0 := blk_frozen BK132.out 0
           have hfz36_1 := blk_frozen BK132.out 1
           have hfz36_2 := blk_frozen BK132.out 2
           have hfz36_3 := blk_frozen BK132.out 3
           have hfz36_4 := blk_frozen BK132.out 4
           have hfz36_5 := blk_frozen BK132.out 5
           have hfz36_6 := blk_frozen BK132.out 6
           have hfz36_7 := blk_frozen BK132.out 7
           have hfz36_8 := blk_frozen BK132.out 8
           go_wp2
           go_ret
           exact ⟨by first | rfl | (simp [errW_none, errW_some] <;> rfl) | (simp [*, errW_none, errW_some] <;> rfl) | (refine L.ret_bool ?_; rw [Bool.eq_iff_iff]; simp; done) | (refine L.ret_bool ?_; rw [Bool.eq_iff_iff]; simp [*]; done), by repeat (first | (with_reducible first | exact HB.out | apply below_alloc | apply pw_below_drewN | apply below_drew1 | refine below_set ?_ GE132.out) | exact HB.out)⟩
         ·replace c19 := Bool.eq_false_iff.mpr c19
          subst c19
          have H1 : (some 92) = some r := by rw [if_neg (show ¬ (false = true) by decide)] at H; exact H
          clear H
          have H := H1
          clear H1
          obtain rfl := Option.some.inj H
          have hcz37_0 : wc.cell? ⟨gb132, 0, none⟩ = some (.int .i64 a0_0) := (blk_cell BK132.out 0).trans rfl
          have hcz37_1 : wc.cell? ⟨gb132, 1, none⟩ = some (.int .i64 a0_1) := (blk_cell BK132.out 1).trans rfl
          have hcz37_2 : wc.cell? ⟨gb132, 2, none⟩ = some (.int .i64 a0_2) := (blk_cell BK132.out 2).trans rfl
          have hcz37_3 : wc.cell? ⟨gb132, 3, none⟩ = some (.int .i64 a0_3) := (blk_cell BK132.out 3).trans rfl
          have hcz37_4 : wc.cell? ⟨gb132, 4, none⟩ = some (.int .i64 a0_4) := (blk_cell BK132.out 4).trans rfl
          have hcz37_5 : wc.cell? ⟨gb132, 5, none⟩ = some (.int .i64 a0_5) := (blk_cell BK132.out 5).trans rfl
          have hcz37_6 : wc.cell? ⟨gb132, 6, none⟩ = some (.string a0_6) := (blk_cell BK132.out 6).trans rfl
          have hcz37_7 : wc.cell? ⟨gb132, 7, none⟩ = some (.string a0_7) := (blk_cell BK132.out 7).trans rfl
          have hcz37_8 : wc.cell? ⟨gb132, 8, none⟩ = some (.slice A0_8 l0_8.length c0_8) := (blk_cell BK132.out 8).trans rfl
          have hfz37_0 := blk_frozen BK132.out 0
          have hfz37_1 := blk_frozen BK132.out 1
          have hfz37_2 := blk_frozen BK132.out 2
          have hfz37_3 := blk_frozen BK132.out 3
          have hfz37_4 := blk_frozen BK132.out 4
          have hfz37_5 := blk_frozen BK132.out 5
          have hfz37_6 := blk_frozen BK132.out 6
          have hfz37_7 := blk_frozen BK132.out 7
          have hfz37_8 := blk_frozen BK132.out 8
          go_wp2
          go_ret
          exact ⟨by first | rfl | (simp [errW_none, errW_some] <;> rfl) | (simp [*, errW_none, errW_some] <;> rfl) | (refine L.ret_bool ?_; rw [Bool.eq_iff_iff]; simp; done) | (refine L.ret_bool ?_; rw [Bool.eq_iff_iff]; simp [*]; done), by repeat (first | (with_reducible first | exact HB.out | apply below_alloc | apply pw_below_drewN | apply below_drew1 | refine below_set ?_ GE132.out) | exact HB.out)⟩
        ·replace c18 := Bool.eq_false_iff.mpr c18
         subst c18
         have H1 : (some 92) = some r := by rw [if_neg (show ¬ (false = true) by decide)] at H; exact H
         clear H
         have H := H1
         clear H1
         obtain rfl := Option.some.inj H
         have hcz38_0 : wc.cell? ⟨gb132, 0, none⟩ = some (.int .i64 a0_0) := (blk_cell BK132.out 0).trans rfl
         have hcz38_1 : wc.cell? ⟨gb132, 1, none⟩ = some (.int .i64 a0_1) := (blk_cell BK132.out 1).trans rfl
         have hcz38_2 : wc.cell? ⟨gb132, 2, none⟩ = some (.int .i64 a0_2) := (blk_cell BK132.out 2).trans rfl
         have hcz38_3 : wc.cell? ⟨gb132, 3, none⟩ = some (.int .i64 a0_3) := (blk_cell BK132.out 3).trans rfl
         have hcz38_4 : wc.cell? ⟨gb132, 4, none⟩ = some (.int .i64 a0_4) := (blk_cell BK132.out 4).trans rfl
         have hcz38_5 : wc.cell? ⟨gb132, 5, none⟩ = some (.int .i64 a0_5) := (blk_cell BK132.out 5).trans rfl
         have hcz38_6 : wc.cell? ⟨gb132, 6, none⟩ = some (.string a0_6) := (blk_cell BK132.out 6).trans rfl
         have hcz38_7 : wc.cell? ⟨gb132, 7, none⟩ = some (.string a0_7) := (blk_cell BK132.out 7).trans rfl
         have hcz38_8 : wc.cell? ⟨gb132, 8, none⟩ = some (.slice A0_8 l0_8.length c0_8) := (blk_cell BK132.out 8).trans rfl
         have hfz38_0 := blk_frozen BK132.out 0
         have hfz38_1 := blk_frozen BK132.out 1
         have hfz38_2 := blk_frozen BK132.out 2
         have hfz38_3 := blk_frozen BK132.out 3
         have hfz38_4 := blk_frozen BK132.out 4
         have hfz38_5 := blk_frozen BK132.out 5
         have hfz38_6 := blk_frozen BK132.out 6
         have hfz38_7 := blk_frozen BK132.out 7
         have hfz38_8 := blk_frozen BK132.out 8
         go_wp2
         go_ret
         exact ⟨by first | rfl | (simp [errW_none, errW_some] <;> rfl) | (simp [*, errW_none, errW_some] <;> rfl) | (refine L.ret_bool ?_; rw [Bool.eq_iff_iff]; simp; done) | (refine L.ret_bool ?_; rw [Bool.eq_iff_iff]; simp [*]; done), by repeat (first | (with_reducible first | exact HB.out | apply below_alloc | apply pw_below_drewN | apply below_drew1 | refine below_set ?_ GE132.out) | exact HB.out)⟩
       ·rw [if_neg c17] at H
        have c17b0 : (a0_0 == 1) = false := beq_eq_false_iff_ne.mpr c17
        have c17b1 : (a0_0 != 1) = true := bne_iff_ne.mpr c17
        have HC39 := Aside0.mk H
        clear H
        have hcz40_0 : wc.cell? ⟨gb132, 0, none⟩ = some (.int .i64 a0_0) := (blk_cell BK132.out 0).trans rfl
        have hcz40_1 : wc.cell? ⟨gb132, 1, none⟩ = some (.int .i64 a0_1) := (blk_cell BK132.out 1).trans rfl
        have hcz40_2 : wc.cell? ⟨gb132, 2, none⟩ = some (.int .i64 a0_2) := (blk_cell BK132.out 2).trans rfl
        have hcz40_3 : wc.cell? ⟨gb132, 3, none⟩ = some (.int .i64 a0_3) := (blk_cell BK132.out 3).trans rfl
        have hcz40_4 : wc.cell? ⟨gb132, 4, none⟩ = some (.int .i64 a0_4) := (blk_cell BK132.out 4).trans rfl
        have hcz40_5 : wc.cell? ⟨gb132, 5, none⟩ = some (.int .i64 a0_5) := (blk_cell BK132.out 5).trans rfl
        have hcz40_6 : wc.cell? ⟨gb132, 6, none⟩ = some (.string a0_6) := (blk_cell BK132.out 6).trans rfl
        have hcz40_7 : wc.cell? ⟨gb132, 7, none⟩ = some (.string a0_7) := (blk_cell BK132.out 7).trans rfl
        have hcz40_8 : wc.cell? ⟨gb132, 8, none⟩ = some (.slice A0_8 l0_8.length c0_8) := (blk_cell BK132.out 8).trans rfl
        have hfz40_0 := blk_frozen BK132.out 0
        have hfz40_1 := blk_frozen BK132.out 1
        have hfz40_2 := blk_frozen BK132.out 2
        have hfz40_3 := blk_frozen BK132.out 3
        have hfz40_4 := blk_frozen BK132.out 4
        have hfz40_5 := blk_frozen BK132.out 5
        have hfz40_6 := blk_frozen BK132.out 6
        have hfz40_7 := blk_frozen BK132.out 7
        have hfz40_8 := blk_frozen BK132.out 8
        go_upto_if 63 with (fail)
        go_cut [63] (fun v63 wc => ∃ (kq : Nat) (x63_38 : Bool), v63 = .bool x63_38 ∧ Aside0 (sumpref09_Check.j3 kq x3_1 x4_8 x5_12 ((l0_8.length : Int) == 0) a0_0 x63_38 a0_0 a0_1 a0_2 a0_3 a0_4 a0_5 a0_6 a0_7 l0_8 = some r) ∧ Aside0 (kq ≤ kj12) ∧ Aside0 (wc.heap[gb132]? = some (.cells #[.int .i64 a0_0, .int .i64 a0_1, .int .i64 a0_2, .int .i64 a0_3, .int .i64 a0_4, .int .i64 a0_5, .string a0_6, .string a0_7, (.slice A0_8 l0_8.length c0_8)] 24 (0, 0))) ∧ Aside0 (Below w.heap.size w wc))
        case first => as_aux_lemma =>
         have H := HC39.out
         clear HC39
         by_cases c41 : a0_0 = 2
         ·rw [if_pos c41] at H
          have c41b0 : (a0_0 == 2) = true := beq_iff_eq.mpr c41
          have c41b1 : (a0_0 != 2) = false := bne_eq_false_iff_eq.mpr c41
          clear c41
          (first | rw [c41b0] | (simp only [i64_w, i32_w]; rw [c41b0]) | skip)
          have H' := Aside0.mk H
          clear H
          go_wp2
          go_meet
          case rel => exact ⟨_, ((a0_0 == 2)), (by first | rfl | (simp; done) | (simp [*]; done)), H', ⟨by have := HJ1.out; have := HJ8.out; have := HJ12.out; first | omega | exact Nat.le_refl _⟩, ⟨by (with_reducible repeat (first | refine blk_drewN ?_ _ | refine blk_drew ?_ | refine blk_alloc ?_ _)); exact BK132.out⟩, ⟨by repeat (first | (with_reducible first | exact HB.out | apply below_alloc | apply pw_below_drewN | apply below_drew1 | refine below_set ?_ GE132.out) | exact HB.out)⟩⟩
         ·rw [if_neg c41] at H
          have c41b0 : (a0_0 == 2) = false := beq_eq_false_iff_ne.mpr c41
          have c41b1 : (a0_0 != 2) = true := bne_iff_ne.mpr c41
          (first | rw [c41b0] | (simp only [i64_w, i32_w]; rw [c41b0]) | skip)
          by_cases c42 : a0_0 = 3
          ·rw [if_pos c42] at H
           have c42b0 : (a0_0 == 3) = true := beq_iff_eq.mpr c42
           have c42b1 : (a0_0 != 3) = false := bne_eq_false_iff_eq.mpr c42
           clear c42
           have H' := Aside0.mk H
           clear H
           go_wp2
           go_meet
           case rel => exact ⟨_, ((a0_0 == 3)), (by first | rfl | (simp; done) | (simp [*]; done)), H', ⟨by have := HJ1.out; have := HJ8.out; have := HJ12.out; first | omega | exact Nat.le_refl _⟩, ⟨by (with_reducible repeat (first | refine blk_drewN ?_ _ | refine blk_drew ?_ | refine blk_alloc ?_ _)); exact BK132.out⟩, ⟨by repeat (first | (with_reducible first | exact HB.out | apply below_alloc | apply pw_below_drewN | apply below_drew1 | refine below_set ?_ GE132.out) | exact HB.out)⟩⟩
          ·rw [if_neg c42] at H
           have c42b0 : (a0_0 == 3) = false := beq_eq_false_iff_ne.mpr c42
           have c42b1 : (a0_0 != 3) = true := bne_iff_ne.mpr c42
           have H' := Aside0.mk H
           clear H
           go_wp2
           go_meet
           case rel => exact ⟨_, ((a0_0 == 4)), (by first | rfl | (simp; done) | (simp [*]; done)), H', ⟨by have := HJ1.out; have := HJ8.out; have := HJ12.out; first | omega | exact Nat.le_refl _⟩, ⟨by (with_reducible repeat (first | refine blk_drewN ?_ _ | refine blk_drew ?_ | refine blk_alloc ?_ _)); exact BK132.out⟩, ⟨by repeat (first | (with_reducible first | exact HB.out | apply below_alloc | apply pw_below_drewN | apply below_drew1 | refine below_set ?_ GE132.out) | exact HB.out)⟩⟩
        case rest => as_aux_lemma =>
         clear HC39
         try clear c1
         try clear c2
         try clear p2
         try clear c3
         try clear c4
         try clear c5
         try clear c10
         try clear c10b0
         try clear c10b1
         try clear c14
         try clear c14b0
         try clear c14b1
         try clear c15
         try clear c17
         try clear c17b0
         try clear c17b1
         try clear c18
         try clear c19
         try clear c20
         try clear c20b0
         try clear c20b1
         try clear c20b2
         try clear c21
         try clear c21b0
         try clear c21b1
         try clear c22
         try clear c22b0
         try clear c22b1
         try clear c24
         try clear c28
         try clear c28b0
         try clear c28b1
         try clear c29
         try clear c29b0
         try clear c29b1
         try clear c31
         try clear c41
         try clear c41b0
         try clear c41b1
         try clear c42
         try clear c42b0
         try clear c42b1
         try clear p2
         obtain ⟨kq, x63_38, rfl, HA, HJ38, BK132, HB⟩ := hcut
         cases kq with
         | zero => exact absurd HA.out (by simp [sumpref09_Check.j3])
         | succ kj38 =>
          have H := HA.out
          clear HA
          simp only [sumpref09_Check.j3] at H
          by_cases c43 : x63_38 = true
          ·subst c43
           have H1 : (if x3_1 = true then (if x5_12 = true then (if ((l0_8.length : Int) == 0) = true then (if a0_4 = 0 then (if a0_5 = 0 then ((sumpref09_number.f a0_1).bind fun t137 => (if t137 = true then (some 0) else (some 92))) else (some 92)) else (some 92)) else (some 92)) else (some 92)) else (some 92)) = some r := by rw [if_pos rfl] at H; exact H
           clear H
           have H := H1
           clear H1
           by_cases c44 : x3_1 = true
           ·subst c44
            have H1 : (if x5_12 = true then (if ((l0_8.length : Int) == 0) = true then (if a0_4 = 0 then (if a0_5 = 0 then ((sumpref09_number.f a0_1).bind fun t137 => (if t137 = true then (some 0) else (some 92))) else (some 92)) else (some 92)) else (some 92)) else (some 92)) = some r := by rw [if_pos rfl] at H; exact H
            clear H
            have H := H1
            clear H1
            by_cases c45 : x5_12 = true
            ·subst c45
             have H1 : (if ((l0_8.length : Int) == 0) = true then (if a0_4 = 0 then (if a0_5 = 0 then ((sumpref09_number.f a0_1).bind fun t137 => (if t137 = true then (some 0) else (some 92))) else (some 92)) else (some 92)) else (some 92)) = some r := by rw [if_pos rfl] at H; exact H
             clear H
             have H := H1
             clear H1
             by_cases c46 : ((l0_8.length : Int) == 0) = true
             ·rw [if_pos c46] at H
              have c46b0 : ((l0_8.length : Int) == 0) = true := c46
              (try (have c46b1 : decide ((l0_8.length : Int) = 0) = true := by simpa using c46))
              (try (have c46b2 : ((l0_8.length : Int) == 0) = true := by simpa using c46))
              clear c46
              by_cases c47 : a0_4 = 0
              ·rw [if_pos c47] at H
               have c47b0 : (a0_4 == 0) = true := beq_iff_eq.mpr c47
               have c47b1 : (a0_4 != 0) = false := bne_eq_false_iff_eq.mpr c47
               clear c47
               by_cases c48 : a0_5 = 0
               ·rw [if_pos c48] at H
                have c48b0 : (a0_5 == 0) = true := beq_iff_eq.mpr c48
                have c48b1 : (a0_5 != 0) = false := bne_eq_false_iff_eq.mpr c48
                clear c48
                replace H := Option.bind_eq_some_iff.mp H
                obtain ⟨t137, A490, H⟩ := H
                replace H : (if t137 = true then (some 0) else (some 92)) = some r := H
                have A49 := Aside0.mk A490
                clear A490
                by_cases c50 : t137 = true
                ·subst c50
                 have H1 : (some 0) = some r := by rw [if_pos rfl] at H; exact H
                 clear H
                 have H := H1
                 clear H1
                 obtain rfl := Option.some.inj H
                 have hcz51_0 : wc.cell? ⟨gb132, 0, none⟩ = some (.int .i64 a0_0) := (blk_cell BK132.out 0).trans rfl
                 have hcz51_1 : wc.cell? ⟨gb132, 1, none⟩ = some (.int .i64 a0_1) := (blk_cell BK132.out 1).trans rfl
                 have hcz51_2 : wc.cell? ⟨gb132, 2, none⟩ = some (.int .i64 a0_2) := (blk_cell BK132.out 2).trans rfl
                 have hcz51_3 : wc.cell? ⟨gb132, 3, none⟩ = some (.int .i64 a0_3) := (blk_cell BK132.out 3).trans rfl
                 have hcz51_4 : wc.cell? ⟨gb132, 4, none⟩ = some (.int .i64 a0_4) := (blk_cell BK132.out 4).trans rfl
                 have hcz51_5 : wc.cell? ⟨gb132, 5, none⟩ = some (.int .i64 a0_5) := (blk_cell BK132.out 5).trans rfl
                 have hcz51_6 : wc.cell? ⟨gb132, 6, none⟩ = some (.string a0_6) := (blk_cell BK132.out 6).trans rfl
                 have hcz51_7 : wc.cell? ⟨gb132, 7, none⟩ = some (.string a0_7) := (blk_cell BK132.out 7).trans rfl
                 have hcz51_8 : wc.cell? ⟨gb132, 8, none⟩ = some (.slice A0_8 l0_8.length c0_8) := (blk_cell BK132.out 8).trans rfl
                 have hfz51_0 := blk_frozen BK132.out 0
                 have hfz51_1 := blk_frozen BK132.out 1
                 have hfz51_2 := blk_frozen BK132.out 2
                 have hfz51_3 := blk_frozen BK132.out 3
                 have hfz51_4 := blk_frozen BK132.out 4
                 have hfz51_5 := blk_frozen BK132.out 5
                 have hfz51_6 := blk_frozen BK132.out 6
                 have hfz51_7 := blk_frozen BK132.out 7
                 have hfz51_8 := blk_frozen BK132.out 8
                 go_wp2_with (first | (go_at_call 53; (with_reducible refine (sumpref09_number.calls a0_1 true _ A49.out).mono ?_); rintro e w' ⟨rfl, ⟨nd, rfl⟩⟩))
                 go_ret
                 exact ⟨by first | rfl | (simp [errW_none, errW_some] <;> rfl) | (simp [*, errW_none, errW_some] <;> rfl) | (refine L.ret_bool ?_; rw [Bool.eq_iff_iff]; simp; done) | (refine L.ret_bool ?_; rw [Bool.eq_iff_iff]; simp [*]; done), by repeat (first | (with_reducible first | exact HB.out | apply below_alloc | apply pw_below_drewN | apply below_drew1 | refine below_set ?_ GE132.out) | exact HB.out)⟩
                ·replace c50 := Bool.eq_false_iff.mpr c50
                 subst c50
                 have H1 : (some 92) = some r := by rw [if_neg (show ¬ (false = true) by decide)] at H; exact H
                 clear H
                 have H := H1
                 clear H1
                 obtain rfl := Option.some.inj H
                 have hcz52_0 : wc.cell? ⟨gb132, 0, none⟩ = some (.int .i64 a0_0) := (blk_cell BK132.out 0).trans rfl
                 have hcz52_1 : wc.cell? ⟨gb132, 1, none⟩ = some (.int .i64 a0_1) := (blk_cell BK132.out 1).trans rfl
                 have hcz52_2 : wc.cell? ⟨gb132, 2, none⟩ = some (.int .i64 a0_2) := (blk_cell BK132.out 2).trans rfl
                 have hcz52_3 : wc.cell? ⟨gb132, 3, none⟩ = some (.int .i64 a0_3) := (blk_cell BK132.out 3).trans rfl
                 have hcz52_4 : wc.cell? ⟨gb132, 4, none⟩ = some (.int .i64 a0_4) := (blk_cell BK132.out 4).trans rfl
                 have hcz52_5 : wc.cell? ⟨gb132, 5, none⟩ = some (.int .i64 a0_5) := (blk_cell BK132.out 5).trans rfl
                 have hcz52_6 : wc.cell? ⟨gb132, 6, none⟩ = some (.string a0_6) := (blk_cell BK132.out 6).trans rfl
                 have hcz52_7 : wc.cell? ⟨gb132, 7, none⟩ = some (.string a0_7) := (blk_cell BK132.out 7).trans rfl
                 have hcz52_8 : wc.cell? ⟨gb132, 8, none⟩ = some (.slice A0_8 l0_8.length c0_8) := (blk_cell BK132.out 8).trans rfl
                 have hfz52_0 := blk_frozen BK132.out 0
                 have hfz52_1 := blk_frozen BK132.out 1
                 have hfz52_2 := blk_frozen BK132.out 2
                 have hfz52_3 := blk_frozen BK132.out 3
                 have hfz52_4 := blk_frozen BK132.out 4
                 have hfz52_5 := blk_frozen BK132.out 5
                 have hfz52_6 := blk_frozen BK132.out 6
                 have hfz52_7 := blk_frozen BK132.out 7
                 have hfz52_8 := blk_frozen BK132.out 8
                 go_wp2_with (first | (go_at_call 53; (with_reducible refine (sumpref09_number.calls a0_1 false _ A49.out).mono ?_); rintro e w' ⟨rfl, ⟨nd, rfl⟩⟩))
                 go_ret
                 exact ⟨by first | rfl | (simp [errW_none, errW_some] <;> rfl) | (simp [*, errW_none, errW_some] <;> rfl) | (refine L.ret_bool ?_; rw [Bool.eq_iff_iff]; simp; done) | (refine L.ret_bool ?_; rw [Bool.eq_iff_iff]; simp [*]; done), by repeat (first | (with_reducible first | exact HB.out | apply below_alloc | apply pw_below_drewN | apply below_drew1 | refine below_set ?_ GE132.out) | exact HB.out)⟩
               ·rw [if_neg c48] at H
                have c48b0 : (a0_5 == 0) = false := beq_eq_false_iff_ne.mpr c48
                have c48b1 : (a0_5 != 0) = true := bne_iff_ne.mpr c48
                obtain rfl := Option.some.inj H
                have hcz53_0 : wc.cell? ⟨gb132, 0, none⟩ = some (.int .i64 a0_0) := (blk_cell BK132.out 0).trans rfl
                have hcz53_1 : wc.cell? ⟨gb132, 1, none⟩ = some (.int .i64 a0_1) := (blk_cell BK132.out 1).trans rfl
                have hcz53_2 : wc.cell? ⟨gb132, 2, none⟩ = some (.int .i64 a0_2) := (blk_cell BK132.out 2).trans rfl
                have hcz53_3 : wc.cell? ⟨gb132, 3, none⟩ = some (.int .i64 a0_3) := (blk_cell BK132.out 3).trans rfl
                have hcz53_4 : wc.cell? ⟨gb132, 4, none⟩ = some (.int .i64 a0_4) := (blk_cell BK132.out 4).trans rfl
                have hcz53_5 : wc.cell? ⟨gb132, 5, none⟩ = some (.int .i64 a0_5) := (blk_cell BK132.out 5).trans rfl
                have hcz53_6 : wc.cell? ⟨gb132, 6, none⟩ = some (.string a0_6) := (blk_cell BK132.out 6).trans rfl
                have hcz53_7 : wc.cell? ⟨gb132, 7, none⟩ = some (.string a0_7) := (blk_cell BK132.out 7).trans rfl
                have hcz53_8 : wc.cell? ⟨gb132, 8, none⟩ = some (.slice A0_8 l0_8.length c0_8) := (blk_cell BK132.out 8).trans rfl
                have hfz53_0 := blk_frozen BK132.out 0
                have hfz53_1 := blk_frozen BK132.out 1
                have hfz53_2 := blk_frozen BK132.out 2
                have hfz53_3 := blk_frozen BK132.out 3
                have hfz53_4 := blk_frozen BK132.out 4
                have hfz53_5 := blk_frozen BK132.out 5
                have hfz53_6 := blk_frozen BK132.out 6
                have hfz53_7 := blk_frozen BK132.out 7
                have hfz53_8 := blk_frozen BK132.out 8
                go_wp2
                go_ret
                exact ⟨by first | rfl | (simp [errW_none, errW_some] <;> rfl) | (simp [*, errW_none, errW_some] <;> rfl) | (refine L.ret_bool ?_; rw [Bool.eq_iff_iff]; simp; done) | (refine L.ret_bool ?_; rw [Bool.eq_iff_iff]; simp [*]; done), by repeat (first | (with_reducible first | exact HB.out | apply below_alloc | apply pw_below_drewN | apply below_drew1 | refine below_set ?_ GE132.out) | exact HB.out)⟩
              ·rw [if_neg c47] at H
               have c47b0 : (a0_4 == 0) = false := beq_eq_false_iff_ne.mpr c47
               have c47b1 : (a0_4 != 0) = true := bne_iff_ne.mpr c47
               obtain rfl := Option.some.inj H
               have hcz54_0 : wc.cell? ⟨gb132, 0, none⟩ = some (.int .i64 a0_0) := (blk_cell BK132.out 0).trans rfl
               have hcz54_1 : wc.cell? ⟨gb132, 1, none⟩ = some (.int .i64 a0_1) := (blk_cell BK132.out 1).trans rfl
               have hcz54_2 : wc.cell? ⟨gb132, 2, none⟩ = some (.int .i64 a0_2) := (blk_cell BK132.out 2).trans rfl
               have hcz54_3 : wc.cell? ⟨gb132, 3, none⟩ = some (.int .i64 a0_3) := (blk_cell BK132.out 3).trans rfl
               have hcz54_4 : wc.cell? ⟨gb132, 4, none⟩ = some (.int .i64 a0_4) := (blk_cell BK132.out 4).trans rfl
               have hcz54_5 : wc.cell? ⟨gb132, 5, none⟩ = some (.int .i64 a0_5) := (blk_cell BK132.out 5).trans rfl
               have hcz54_6 : wc.cell? ⟨gb132, 6, none⟩ = some (.string a0_6) := (blk_cell BK132.out 6).trans rfl
               have hcz54_7 : wc.cell? ⟨gb132, 7, none⟩ = some (.string a0_7) := (blk_cell BK132.out 7).trans rfl
               have hcz54_8 : wc.cell? ⟨gb132, 8, none⟩ = some (.slice A0_8 l0_8.length c0_8) := (blk_cell BK132.out 8).trans rfl
               have hfz54_0 := blk_frozen BK132.out 0
               have hfz54_1 := blk_frozen BK132.out 1
               have hfz54_2 := blk_frozen BK132.out 2
               have hfz54_3 := blk_frozen BK132.out 3
               have hfz54_4 := blk_frozen BK132.out 4
               have hfz54_5 := blk_frozen BK132.out 5
               have hfz54_6 := blk_frozen BK132.out 6
               have hfz54_7 := blk_frozen BK132.out 7
               have hfz54_8 := blk_frozen BK132.out 8
               go_wp2
               go_ret
               exact ⟨by first | rfl | (simp [errW_none, errW_some] <;> rfl) | (simp [*, errW_none, errW_some] <;> rfl) | (refine L.ret_bool ?_; rw [Bool.eq_iff_iff]; simp; done) | (refine L.ret_bool ?_; rw [Bool.eq_iff_iff]; simp [*]; done), by repeat (first | (with_reducible first | exact HB.out | apply below_alloc | apply pw_below_drewN | apply below_drew1 | refine below_set ?_ GE132.out) | exact HB.out)⟩
             ·rw [if_neg c46] at H
              have c46b0 : ((l0_8.length : Int) == 0) = false := by simpa using c46
              (try (have c46b1 : decide ((l0_8.length : Int) = 0) = false := by simpa using c46))
              (try (have c46b2 : ((l0_8.length : Int) == 0) = false := by simpa using c46))
              (try (have c46b3 : ¬ ((l0_8.length : Int) = 0) := by simpa using c46))
              clear c46
              obtain rfl := Option.some.inj H
              go_wp2
              go_ret
              exact ⟨by first | rfl | (simp [errW_none, errW_some] <;> rfl) | (simp [*, errW_none, errW_some] <;> rfl) | (refine L.ret_bool ?_; rw [Bool.eq_iff_iff]; simp; done) | (refine L.ret_bool ?_; rw [Bool.eq_iff_iff]; simp [*]; done), by repeat (first | (with_reducible first | exact HB.out | apply below_alloc | apply pw_below_drewN | apply below_drew1 | refine below_set ?_ GE132.out) | exact HB.out)⟩
            ·replace c45 := Bool.eq_false_iff.mpr c45
             subst c45
             have H1 : (some 92) = some r := by rw [if_neg (show ¬ (false = true) by decide)] at H; exact H
             clear H
             have H := H1
             clear H1
             obtain rfl := Option.some.inj H
             go_wp2
             go_ret
             exact ⟨by first | rfl | (simp [errW_none, errW_some] <;> rfl) | (simp [*, errW_none, errW_some] <;> rfl) | (refine L.ret_bool ?_; rw [Bool.eq_iff_iff]; simp; done) | (refine L.ret_bool ?_; rw [Bool.eq_iff_iff]; simp [*]; done), by repeat (first | (with_reducible first | exact HB.out | apply below_alloc | apply pw_below_drewN | apply below_drew1 | refine below_set ?_ GE132.out) | exact HB.out)⟩
           ·replace c44 := Bool.eq_false_iff.mpr c44
            subst c44
            have H1 : (some 92) = some r := by rw [if_neg (show ¬ (false = true) by decide)] at H; exact H
            clear H
            have H := H1
            clear H1
            obtain rfl := Option.some.inj H
            go_wp2
            go_ret
            exact ⟨by first | rfl | (simp [errW_none, errW_some] <;> rfl) | (simp [*, errW_none, errW_some] <;> rfl) | (refine L.ret_bool ?_; rw [Bool.eq_iff_iff]; simp; done) | (refine L.ret_bool ?_; rw [Bool.eq_iff_iff]; simp [*]; done), by repeat (first | (with_reducible first | exact HB.out | apply below_alloc | apply pw_below_drewN | apply below_drew1 | refine below_set ?_ GE132.out) | exact HB.out)⟩
          ·replace c43 := Bool.eq_false_iff.mpr c43
           subst c43
           have H1 : (if a0_0 = 5 then (if x3_1 = true then ((sumpref09_number.f a0_3).bind fun t138 => (if t138 = true then ((sumpref01_Name.f kj38 a0_7).bind fun t139 => (if t139 = 0 then (if ((l0_8.length : Int) == 0) = true then (if a0_4 = 0 then (if a0_5 = 0 then ((sumpref09_number.f a0_1).bind fun t140 => (if t140 = true then (some 0) else (some 92))) else (some 92)) else (some 92)) else (some 92)) else (some 92))) else (some 92))) else (some 92)) else (if a0_0 = 6 then (if x4_8 = true then (if x5_12 = true then (if ((l0_8.length : Int) == 0) = true then (if a0_4 = 0 then (if a0_5 ≥ 0 then (if a0_5 ≤ 16384 then ((sumpref09_number.f a0_1).bind fun t141 => (if t141 = true then (some 0) else (some 92))) else (some 92)) else (some 92)) else (some 92)) else (some 92)) else (some 92)) else (some 92)) else (if a0_0 = 7 then (if x4_8 = true then (if x5_12 = true then (if (l0_8.length : Int) = 256 then (if a0_4 ≥ 0 then (if a0_4 ≤ 63 then (if a0_5 ≤ 16384 then (if (a0_5 > (wrap64 (256 * a0_4))) then ((sumpref09_number.f a0_1).bind fun t142 => (if t142 = true then (some 0) else (some 92))) else (some 92)) else (some 92)) else (some 92)) else (some 92)) else (some 92)) else (some 92)) else (some 92)) else (if a0_0 = 8 then (if x4_8 = true then (if x5_12 = true then (if ((l0_8.length : Int) == 0) = true then (if a0_4 = 0 then (if a0_5 = 0 then ((sumpref09_number.f a0_1).bind fun t143 => (if t143 = true then (some 0) else (some 92))) else (some 92)) else (some 92)) else (some 92)) else (some 92)) else (some 92)) else (some 92))))) = some r := by rw [if_neg (show ¬ (false = true) by decide)] at H; exact H
           clear H
           have H := H1
           clear H1
           by_cases c55 : a0_0 = 5
           ·rw [if_pos c55] at H
            have c55b0 : (a0_0 == 5) = true := beq_iff_eq.mpr c55
            have c55b1 : (a0_0 != 5) = false := bne_eq_false_iff_eq.mpr c55
            clear c55
            by_cases c56 : x3_1 = true
            ·subst c56
             have H1 : ((sumpref09_number.f a0_3).bind fun t138 => (if t138 = true then ((sumpref01_Name.f kj38 a0_7).bind fun t139 => (if t139 = 0 then (if ((l0_8.length : Int) == 0) = true then (if a0_4 = 0 then (if a0_5 = 0 then ((sumpref09_number.f a0_1).bind fun t140 => (if t140 = true then (some 0) else (some 92))) else (some 92)) else (some 92)) else (some 92)) else (some 92))) else (some 92))) = some r := by rw [if_pos rfl] at H; exact H
             clear H
             have H := H1
             clear H1
             replace H := Option.bind_eq_some_iff.mp H
             obtain ⟨t138, A570, H⟩ := H
             replace H : (if t138 = true then ((sumpref01_Name.f kj38 a0_7).bind fun t139 => (if t139 = 0 then (if ((l0_8.length : Int) == 0) = true then (if a0_4 = 0 then (if a0_5 = 0 then ((sumpref09_number.f a0_1).bind fun t140 => (if t140 = true then (some 0) else (some 92))) else (some 92)) else (some 92)) else (some 92)) else (some 92))) else (some 92)) = some r := H
             have A57 := Aside0.mk A570
             clear A570
             by_cases c58 : t138 = true
             ·subst c58
              have H1 : ((sumpref01_Name.f kj38 a0_7).bind fun t139 => (if t139 = 0 then (if ((l0_8.length : Int) == 0) = true then (if a0_4 = 0 then (if a0_5 = 0 then ((sumpref09_number.f a0_1).bind fun t140 => (if t140 = true then (some 0) else (some 92))) else (some 92)) else (some 92)) else (some 92)) else (some 92))) = some r := by rw [if_pos rfl] at H; exact H
              clear H
              have H := H1
              clear H1
              replace H := Option.bind_eq_some_iff.mp H
              obtain ⟨t139, A590, H⟩ := H
              replace H : (if t139 = 0 then (if ((l0_8.length : Int) == 0) = true then (if a0_4 = 0 then (if a0_5 = 0 then ((sumpref09_number.f a0_1).bind fun t140 => (if t140 = true then (some 0) else (some 92))) else (some 92)) else (some 92)) else (some 92)) else (some 92)) = some r := H
              have A59 := Aside0.mk A590
              clear A590
              by_cases c60 : t139 = 0
              ·rw [if_pos c60] at H
               have c60b0 : (t139 == 0) = true := beq_iff_eq.mpr c60
               have c60b1 : (t139 != 0) = false := bne_eq_false_iff_eq.mpr c60
               clear c60
               by_cases c61 : ((l0_8.length : Int) == 0) = true
               ·rw [if_pos c61] at H
                have c61b0 : ((l0_8.length : Int) == 0) = true := c61
                (try (have c61b1 : decide ((l0_8.length : Int) = 0) = true := by simpa using c61))
                (try (have c61b2 : ((l0_8.length : Int) == 0) = true := by simpa using c61))
                clear c61
                by_cases c62 : a0_4 = 0
                ·rw [if_pos c62] at H
                 have c62b0 : (a0_4 == 0) = true := beq_iff_eq.mpr c62
                 have c62b1 : (a0_4 != 0) = false := bne_eq_false_iff_eq.mpr c62
                 clear c62
                 by_cases c63 : a0_5 = 0
                 ·rw [if_pos c63] at H
                  have c63b0 : (a0_5 == 0) = true := beq_iff_eq.mpr c63
                  have c63b1 : (a0_5 != 0) = false := bne_eq_false_iff_eq.mpr c63
                  clear c63
                  replace H := Option.bind_eq_some_iff.mp H
                  obtain ⟨t140, A640, H⟩ := H
                  replace H : (if t140 = true then (some 0) else (some 92)) = some r := H
                  have A64 := Aside0.mk A640
                  clear A640
                  by_cases c65 : t140 = true
                  ·subst c65
                   have H1 : (some 0) = some r := by rw [if_pos rfl] at H; exact H
                   clear H
                   have H := H1
                   clear H1
                   obtain rfl := Option.some.inj H
                   have hcz66_0 : wc.cell? ⟨gb132, 0, none⟩ = some (.int .i64 a0_0) := (blk_cell BK132.out 0).trans rfl
                   have hcz66_1 : wc.cell? ⟨gb132, 1, none⟩ = some (.int .i64 a0_1) := (blk_cell BK132.out 1).trans rfl
                   have hcz66_2 : wc.cell? ⟨gb132, 2, none⟩ = some (.int .i64 a0_2) := (blk_cell BK132.out 2).trans rfl
                   have hcz66_3 : wc.cell? ⟨gb132, 3, none⟩ = some (.int .i64 a0_3) := (blk_cell BK132.out 3).trans rfl
                   have hcz66_4 : wc.cell? ⟨gb132, 4, none⟩ = some (.int .i64 a0_4) := (blk_cell BK132.out 4).trans rfl
                   have hcz66_5 : wc.cell? ⟨gb132, 5, none⟩ = some (.int .i64 a0_5) := (blk_cell BK132.out 5).trans rfl
                   have hcz66_6 : wc.cell? ⟨gb132, 6, none⟩ = some (.string a0_6) := (blk_cell BK132.out 6).trans rfl
                   have hcz66_7 : wc.cell? ⟨gb132, 7, none⟩ = some (.string a0_7) := (blk_cell BK132.out 7).trans rfl
                   have hcz66_8 : wc.cell? ⟨gb132, 8, none⟩ = some (.slice A0_8 l0_8.length c0_8) := (blk_cell BK132.out 8).trans rfl
                   have hfz66_0 := blk_frozen BK132.out 0
                   have hfz66_1 := blk_frozen BK132.out 1
                   have hfz66_2 := blk_frozen BK132.out 2
                   have hfz66_3 := blk_frozen BK132.out 3
                   have hfz66_4 := blk_frozen BK132.out 4
                   have hfz66_5 := blk_frozen BK132.out 5
                   have hfz66_6 := blk_frozen BK132.out 6
                   have hfz66_7 := blk_frozen BK132.out 7
                   have hfz66_8 := blk_frozen BK132.out 8
                   go_wp2_with (first | (go_at_call 53; (with_reducible refine (sumpref09_number.calls a0_3 true _ A57.out).mono ?_); rintro e w' ⟨rfl, ⟨nd, rfl⟩⟩) | (go_at_call 28; (with_reducible refine (sumpref01_Name.calls kj38 a0_7 t139 _ A59.out).mono ?_); rintro e w' ⟨rfl, ⟨nd, rfl⟩⟩) | (go_at_call 53; (with_reducible refine (sumpref09_number.calls a0_1 true _ A64.out).mono ?_); rintro e w' ⟨rfl, ⟨nd, rfl⟩⟩))
                   go_ret
                   exact ⟨by first | rfl | (simp [errW_none, errW_some] <;> rfl) | (simp [*, errW_none, errW_some] <;> rfl) | (refine L.ret_bool ?_; rw [Bool.eq_iff_iff]; simp; done) | (refine L.ret_bool ?_; rw [Bool.eq_iff_iff]; simp [*]; done), by repeat (first | (with_reducible first | exact HB.out | apply below_alloc | apply pw_below_drewN | apply below_drew1 | refine below_set ?_ GE132.out) | exact HB.out)⟩
                  ·replace c65 := Bool.eq_false_iff.mpr c65
                   subst c65
                   have H1 : (some 92) = some r := by rw [if_neg (show ¬ (false = true) by decide)] at H; exact H
                   clear H
                   have H := H1
                   clear H1
                   obtain rfl := Option.some.inj H
                   have hcz67_0 : wc.cell? ⟨gb132, 0, none⟩ = some (.int .i64 a0_0) := (blk_cell BK132.out 0).trans rfl
                   have hcz67_1 : wc.cell? ⟨gb132, 1, none⟩ = some (.int .i64 a0_1) := (blk_cell BK132.out 1).trans rfl
                   have hcz67_2 : wc.cell? ⟨gb132, 2, none⟩ = some (.int .i64 a0_2) := (blk_cell BK132.out 2).trans rfl
                   have hcz67_3 : wc.cell? ⟨gb132, 3, none⟩ = some (.int .i64 a0_3) := (blk_cell BK132.out 3).trans rfl
                   have hcz67_4 : wc.cell? ⟨gb132, 4, none⟩ = some (.int .i64 a0_4) := (blk_cell BK132.out 4).trans rfl
                   have hcz67_5 : wc.cell? ⟨gb132, 5, none⟩ = some (.int .i64 a0_5) := (blk_cell BK132.out 5).trans rfl
                   have hcz67_6 : wc.cell? ⟨gb132, 6, none⟩ = some (.string a0_6) := (blk_cell BK132.out 6).trans rfl
                   have hcz67_7 : wc.cell? ⟨gb132, 7, none⟩ = some (.string a0_7) := (blk_cell BK132.out 7).trans rfl
                   have hcz67_8 : wc.cell? ⟨gb132, 8, none⟩ = some (.slice A0_8 l0_8.length c0_8) := (blk_cell BK132.out 8).trans rfl
                   have hfz67_0 := blk_frozen BK132.out 0
                   have hfz67_1 := blk_frozen BK132.out 1
                   have hfz67_2 := blk_frozen BK132.out 2
                   have hfz67_3 := blk_frozen BK132.out 3
                   have hfz67_4 := blk_frozen BK132.out 4
                   have hfz67_5 := blk_frozen BK132.out 5
                   have hfz67_6 := blk_frozen BK132.out 6
                   have hfz67_7 := blk_frozen BK132.out 7
                   have hfz67_8 := blk_frozen BK132.out 8
                   go_wp2_with (first | (go_at_call 53; (with_reducible refine (sumpref09_number.calls a0_3 true _ A57.out).mono ?_); rintro e w' ⟨rfl, ⟨nd, rfl⟩⟩) | (go_at_call 28; (with_reducible refine (sumpref01_Name.calls kj38 a0_7 t139 _ A59.out).mono ?_); rintro e w' ⟨rfl, ⟨nd, rfl⟩⟩) | (go_at_call 53; (with_reducible refine (sumpref09_number.calls a0_1 false _ A64.out).mono ?_); rintro e w' ⟨rfl, ⟨nd, rfl⟩⟩))
                   go_ret
                   exact ⟨by first | rfl | (simp [errW_none, errW_some] <;> rfl) | (simp [*, errW_none, errW_some] <;> rfl) | (refine L.ret_bool ?_; rw [Bool.eq_iff_iff]; simp; done) | (refine L.ret_bool ?_; rw [Bool.eq_iff_iff]; simp [*]; done), by repeat (first | (with_reducible first | exact HB.out | apply below_alloc | apply pw_below_drewN | apply below_drew1 | refine below_set ?_ GE132.out) | exact HB.out)⟩
                 ·rw [if_neg c63] at H
                  have c63b0 : (a0_5 == 0) = false := beq_eq_false_iff_ne.mpr c63
                  have c63b1 : (a0_5 != 0) = true := bne_iff_ne.mpr c63
                  obtain rfl := Option.some.inj H
                  have hcz68_0 : wc.cell? ⟨gb132, 0, none⟩ = some (.int .i64 a0_0) := (blk_cell BK132.out 0).trans rfl
                  have hcz68_1 : wc.cell? ⟨gb132, 1, none⟩ = some (.int .i64 a0_1) := (blk_cell BK132.out 1).trans rfl
                  have hcz68_2 : wc.cell? ⟨gb132, 2, none⟩ = some (.int .i64 a0_2) := (blk_cell BK132.out 2).trans rfl
                  have hcz68_3 : wc.cell? ⟨gb132, 3, none⟩ = some (.int .i64 a0_3) := (blk_cell BK132.out 3).trans rfl
                  have hcz68_4 : wc.cell? ⟨gb132, 4, none⟩ = some (.int .i64 a0_4) := (blk_cell BK132.out 4).trans rfl
                  have hcz68_5 : wc.cell? ⟨gb132, 5, none⟩ = some (.int .i64 a0_5) := (blk_cell BK132.out 5).trans rfl
                  have hcz68_6 : wc.cell? ⟨gb132, 6, none⟩ = some (.string a0_6) := (blk_cell BK132.out 6).trans rfl
                  have hcz68_7 : wc.cell? ⟨gb132, 7, none⟩ = some (.string a0_7) := (blk_cell BK132.out 7).trans rfl
                  have hcz68_8 : wc.cell? ⟨gb132, 8, none⟩ = some (.slice A0_8 l0_8.length c0_8) := (blk_cell BK132.out 8).trans rfl
                  have hfz68_0 := blk_frozen BK132.out 0
                  have hfz68_1 := blk_frozen BK132.out 1
                  have hfz68_2 := blk_frozen BK132.out 2
                  have hfz68_3 := blk_frozen BK132.out 3
                  have hfz68_4 := blk_frozen BK132.out 4
                  have hfz68_5 := blk_frozen BK132.out 5
                  have hfz68_6 := blk_frozen BK132.out 6
                  have hfz68_7 := blk_frozen BK132.out 7
                  have hfz68_8 := blk_frozen BK132.out 8
                  go_wp2_with (first | (go_at_call 53; (with_reducible refine (sumpref09_number.calls a0_3 true _ A57.out).mono ?_); rintro e w' ⟨rfl, ⟨nd, rfl⟩⟩) | (go_at_call 28; (with_reducible refine (sumpref01_Name.calls kj38 a0_7 t139 _ A59.out).mono ?_); rintro e w' ⟨rfl, ⟨nd, rfl⟩⟩))
                  go_ret
                  exact ⟨by first | rfl | (simp [errW_none, errW_some] <;> rfl) | (simp [*, errW_none, errW_some] <;> rfl) | (refine L.ret_bool ?_; rw [Bool.eq_iff_iff]; simp; done) | (refine L.ret_bool ?_; rw [Bool.eq_iff_iff]; simp [*]; done), by repeat (first | (with_reducible first | exact HB.out | apply below_alloc | apply pw_below_drewN | apply below_drew1 | refine below_set ?_ GE132.out) | exact HB.out)⟩
                ·rw [if_neg c62] at H
                 have c62b0 : (a0_4 == 0) = false := beq_eq_false_iff_ne.mpr c62
                 have c62b1 : (a0_4 != 0) = true := bne_iff_ne.mpr c62
                 obtain rfl := Option.some.inj H
                 have hcz69_0 : wc.cell? ⟨gb132, 0, none⟩ = some (.int .i64 a0_0) := (blk_cell BK132.out 0).trans rfl
                 have hcz69_1 : wc.cell? ⟨gb132, 1, none⟩ = some (.int .i64 a0_1) := (blk_cell BK132.out 1).trans rfl
                 have hcz69_2 : wc.cell? ⟨gb132, 2, none⟩ = some (.int .i64 a0_2) := (blk_cell BK132.out 2).trans rfl
                 have hcz69_3 : wc.cell? ⟨gb132, 3, none⟩ = some (.int .i64 a0_3) := (blk_cell BK132.out 3).trans rfl
                 have hcz69_4 : wc.cell? ⟨gb132, 4, none⟩ = some (.int .i64 a0_4) := (blk_cell BK132.out 4).trans rfl
                 have hcz69_5 : wc.cell? ⟨gb132, 5, none⟩ = some (.int .i64 a0_5) := (blk_cell BK132.out 5).trans rfl
                 have hcz69_6 : wc.cell? ⟨gb132, 6, none⟩ = some (.string a0_6) := (blk_cell BK132.out 6).trans rfl
                 have hcz69_7 : wc.cell? ⟨gb132, 7, none⟩ = some (.string a0_7) := (blk_cell BK132.out 7).trans rfl
                 have hcz69_8 : wc.cell? ⟨gb132, 8, none⟩ = some (.slice A0_8 l0_8.length c0_8) := (blk_cell BK132.out 8).trans rfl
                 have hfz69_0 := blk_frozen BK132.out 0
                 have hfz69_1 := blk_frozen BK132.out 1
                 have hfz69_2 := blk_frozen BK132.out 2
                 have hfz69_3 := blk_frozen BK132.out 3
                 have hfz69_4 := blk_frozen BK132.out 4
                 have hfz69_5 := blk_frozen BK132.out 5
                 have hfz69_6 := blk_frozen BK132.out 6
                 have hfz69_7 := blk_frozen BK132.out 7
                 have hfz69_8 := blk_frozen BK132.out 8
                 go_wp2_with (first | (go_at_call 53; (with_reducible refine (sumpref09_number.calls a0_3 true _ A57.out).mono ?_); rintro e w' ⟨rfl, ⟨nd, rfl⟩⟩) | (go_at_call 28; (with_reducible refine (sumpref01_Name.calls kj38 a0_7 t139 _ A59.out).mono ?_); rintro e w' ⟨rfl, ⟨nd, rfl⟩⟩))
                 go_ret
                 exact ⟨by first | rfl | (simp [errW_none, errW_some] <;> rfl) | (simp [*, errW_none, errW_some] <;> rfl) | (refine L.ret_bool ?_; rw [Bool.eq_iff_iff]; simp; done) | (refine L.ret_bool ?_; rw [Bool.eq_iff_iff]; simp [*]; done), by repeat (first | (with_reducible first | exact HB.out | apply below_alloc | apply pw_below_drewN | apply below_drew1 | refine below_set ?_ GE132.out) | exact HB.out)⟩
               ·rw [if_neg c61] at H
                have c61b0 : ((l0_8.length : Int) == 0) = false := by simpa using c61
                (try (have c61b1 : decide ((l0_8.length : Int) = 0) = false := by simpa using c61))
                (try (have c61b2 : ((l0_8.length : Int) == 0) = false := by simpa using c61))
                (try (have c61b3 : ¬ ((l0_8.length : Int) = 0) := by simpa using c61))
                clear c61
                obtain rfl := Option.some.inj H
                have hcz70_0 : wc.cell? ⟨gb132, 0, none⟩ = some (.int .i64 a0_0) := (blk_cell BK132.out 0).trans rfl
                have hcz70_1 : wc.cell? ⟨gb132, 1, none⟩ = some (.int .i64 a0_1) := (blk_cell BK132.out 1).trans rfl
                have hcz70_2 : wc.cell? ⟨gb132, 2, none⟩ = some (.int .i64 a0_2) := (blk_cell BK132.out 2).trans rfl
                have hcz70_3 : wc.cell? ⟨gb132, 3, none⟩ = some (.int .i64 a0_3) := (blk_cell BK132.out 3).trans rfl
                have hcz70_4 : wc.cell? ⟨gb132, 4, none⟩ = some (.int .i64 a0_4) := (blk_cell BK132.out 4).trans rfl
                have hcz70_5 : wc.cell? ⟨gb132, 5, none⟩ = some (.int .i64 a0_5) := (blk_cell BK132.out 5).trans rfl
                have hcz70_6 : wc.cell? ⟨gb132, 6, none⟩ = some (.string a0_6) := (blk_cell BK132.out 6).trans rfl
                have hcz70_7 : wc.cell? ⟨gb132, 7, none⟩ = some (.string a0_7) := (blk_cell BK132.out 7).trans rfl
                have hcz70_8 : wc.cell? ⟨gb132, 8, none⟩ = some (.slice A0_8 l0_8.length c0_8) := (blk_cell BK132.out 8).trans rfl
                have hfz70_0 := blk_frozen BK132.out 0
                have hfz70_1 := blk_frozen BK132.out 1
                have hfz70_2 := blk_frozen BK132.out 2
                have hfz70_3 := blk_frozen BK132.out 3
                have hfz70_4 := blk_frozen BK132.out 4
                have hfz70_5 := blk_frozen BK132.out 5
                have hfz70_6 := blk_frozen BK132.out 6
                have hfz70_7 := blk_frozen BK132.out 7
                have hfz70_8 := blk_frozen BK132.out 8
                go_wp2_with (first | (go_at_call 53; (with_reducible refine (sumpref09_number.calls a0_3 true _ A57.out).mono ?_); rintro e w' ⟨rfl, ⟨nd, rfl⟩⟩) | (go_at_call 28; (with_reducible refine (sumpref01_Name.calls kj38 a0_7 t139 _ A59.out).mono ?_); rintro e w' ⟨rfl, ⟨nd, rfl⟩⟩))
                go_ret
                exact ⟨by first | rfl | (simp [errW_none, errW_some] <;> rfl) | (simp [*, errW_none, errW_some] <;> rfl) | (refine L.ret_bool ?_; rw [Bool.eq_iff_iff]; simp; done) | (refine L.ret_bool ?_; rw [Bool.eq_iff_iff]; simp [*]; done), by repeat (first | (with_reducible first | exact HB.out | apply below_alloc | apply pw_below_drewN | apply below_drew1 | refine below_set ?_ GE132.out) | exact HB.out)⟩
              ·rw [if_neg c60] at H
               have c60b0 : (t139 == 0) = false := beq_eq_false_iff_ne.mpr c60
               have c60b1 : (t139 != 0) = true := bne_iff_ne.mpr c60
               obtain rfl := Option.some.inj H
               have hcz71_0 : wc.cell? ⟨gb132, 0, none⟩ = some (.int .i64 a0_0) := (blk_cell BK132.out 0).trans rfl
               have hcz71_1 : wc.cell? ⟨gb132, 1, none⟩ = some (.int .i64 a0_1) := (blk_cell BK132.out 1).trans rfl
               have hcz71_2 : wc.cell? ⟨gb132, 2, none⟩ = some (.int .i64 a0_2) := (blk_cell BK132.out 2).trans rfl
               have hcz71_3 : wc.cell? ⟨gb132, 3, none⟩ = some (.int .i64 a0_3) := (blk_cell BK132.out 3).trans rfl
               have hcz71_4 : wc.cell? ⟨gb132, 4, none⟩ = some (.int .i64 a0_4) := (blk_cell BK132.out 4).trans rfl
               have hcz71_5 : wc.cell? ⟨gb132, 5, none⟩ = some (.int .i64 a0_5) := (blk_cell BK132.out 5).trans rfl
               have hcz71_6 : wc.cell? ⟨gb132, 6, none⟩ = some (.string a0_6) := (blk_cell BK132.out 6).trans rfl
               have hcz71_7 : wc.cell? ⟨gb132, 7, none⟩ = some (.string a0_7) := (blk_cell BK132.out 7).trans rfl
               have hcz71_8 : wc.cell? ⟨gb132, 8, none⟩ = some (.slice A0_8 l0_8.length c0_8) := (blk_cell BK132.out 8).trans rfl
               have hfz71_0 := blk_frozen BK132.out 0
               have hfz71_1 := blk_frozen BK132.out 1
               have hfz71_2 := blk_frozen BK132.out 2
               have hfz71_3 := blk_frozen BK132.out 3
               have hfz71_4 := blk_frozen BK132.out 4
               have hfz71_5 := blk_frozen BK132.out 5
               have hfz71_6 := blk_frozen BK132.out 6
               have hfz71_7 := blk_frozen BK132.out 7
               have hfz71_8 := blk_frozen BK132.out 8
               go_wp2_with (first | (go_at_call 53; (with_reducible refine (sumpref09_number.calls a0_3 true _ A57.out).mono ?_); rintro e w' ⟨rfl, ⟨nd, rfl⟩⟩) | (go_at_call 28; (with_reducible refine (sumpref01_Name.calls kj38 a0_7 t139 _ A59.out).mono ?_); rintro e w' ⟨rfl, ⟨nd, rfl⟩⟩))
               go_ret
               exact ⟨by first | rfl | (simp [errW_none, errW_some] <;> rfl) | (simp [*, errW_none, errW_some] <;> rfl) | (refine L.ret_bool ?_; rw [Bool.eq_iff_iff]; simp; done) | (refine L.ret_bool ?_; rw [Bool.eq_iff_iff]; simp [*]; done), by repeat (first | (with_reducible first | exact HB.out | apply below_alloc | apply pw_below_drewN | apply below_drew1 | refine below_set ?_ GE132.out) | exact HB.out)⟩
             ·replace c58 := Bool.eq_false_iff.mpr c58
              subst c58
              have H1 : (some 92) = some r := by rw [if_neg (show ¬ (false = true) by decide)] at H; exact H
              clear H
              have H := H1
              clear H1
              obtain rfl := Option.some.inj H
              have hcz72_0 : wc.cell? ⟨gb132, 0, none⟩ = some (.int .i64 a0_0) := (blk_cell BK132.out 0).trans rfl
              have hcz72_1 : wc.cell? ⟨gb132, 1, none⟩ = some (.int .i64 a0_1) := (blk_cell BK132.out 1).trans rfl
              have hcz72_2 : wc.cell? ⟨gb132, 2, none⟩ = some (.int .i64 a0_2) := (blk_cell BK132.out 2).trans rfl
              have hcz72_3 : wc.cell? ⟨gb132, 3, none⟩ = some (.int .i64 a0_3) := (blk_cell BK132.out 3).trans rfl
              have hcz72_4 : wc.cell? ⟨gb132, 4, none⟩ = some (.int .i64 a0_4) := (blk_cell BK132.out 4).trans rfl
              have hcz72_5 : wc.cell? ⟨gb132, 5, none⟩ = some (.int .i64 a0_5) := (blk_cell BK132.out 5).trans rfl
              have hcz72_6 : wc.cell? ⟨gb132, 6, none⟩ = some (.string a0_6) := (blk_cell BK132.out 6).trans rfl
              have hcz72_7 : wc.cell? ⟨gb132, 7, none⟩ = some (.string a0_7) := (blk_cell BK132.out 7).trans rfl
              have hcz72_8 : wc.cell? ⟨gb132, 8, none⟩ = some (.slice A0_8 l0_8.length c0_8) := (blk_cell BK132.out 8).trans rfl
              have hfz72_0 := blk_frozen BK132.out 0
              have hfz72_1 := blk_frozen BK132.out 1
              have hfz72_2 := blk_frozen BK132.out 2
              have hfz72_3 := blk_frozen BK132.out 3
              have hfz72_4 := blk_frozen BK132.out 4
              have hfz72_5 := blk_frozen BK132.out 5
              have hfz72_6 := blk_frozen BK132.out 6
              have hfz72_7 := blk_frozen BK132.out 7
              have hfz72_8 := blk_frozen BK132.out 8
              go_wp2_with (first | (go_at_call 53; (with_reducible refine (sumpref09_number.calls a0_3 false _ A57.out).mono ?_); rintro e w' ⟨rfl, ⟨nd, rfl⟩⟩))
              go_ret
              exact ⟨by first | rfl | (simp [errW_none, errW_some] <;> rfl) | (simp [*, errW_none, errW_some] <;> rfl) | (refine L.ret_bool ?_; rw [Bool.eq_iff_iff]; simp; done) | (refine L.ret_bool ?_; rw [Bool.eq_iff_iff]; simp [*]; done), by repeat (first | (with_reducible first | exact HB.out | apply below_alloc | apply pw_below_drewN | apply below_drew1 | refine below_set ?_ GE132.out) | exact HB.out)⟩
            ·replace c56 := Bool.eq_false_iff.mpr c56
             subst c56
             have H1 : (some 92) = some r := by rw [if_neg (show ¬ (false = true) by decide)] at H; exact H
             clear H
             have H := H1
             clear H1
             obtain rfl := Option.some.inj H
             go_wp2
             go_ret
             exact ⟨by first | rfl | (simp [errW_none, errW_some] <;> rfl) | (simp [*, errW_none, errW_some] <;> rfl) | (refine L.ret_bool ?_; rw [Bool.eq_iff_iff]; simp; done) | (refine L.ret_bool ?_; rw [Bool.eq_iff_iff]; simp [*]; done), by repeat (first | (with_reducible first | exact HB.out | apply below_alloc | apply pw_below_drewN | apply below_drew1 | refine below_set ?_ GE132.out) | exact HB.out)⟩
           ·rw [if_neg c55] at H
            have c55b0 : (a0_0 == 5) = false := beq_eq_false_iff_ne.mpr c55
            have c55b1 : (a0_0 != 5) = true := bne_iff_ne.mpr c55
            by_cases c73 : a0_0 = 6
            ·rw [if_pos c73] at H
             have c73b0 : (a0_0 == 6) = true := beq_iff_eq.mpr c73
             have c73b1 : (a0_0 != 6) = false := bne_eq_false_iff_eq.mpr c73
             clear c73
             by_cases c74 : x4_8 = true
             ·subst c74
              have H1 : (if x5_12 = true then (if ((l0_8.length : Int) == 0) = true then (if a0_4 = 0 then (if a0_5 ≥ 0 then (if a0_5 ≤ 16384 then ((sumpref09_number.f a0_1).bind fun t141 => (if t141 = true then (some 0) else (some 92))) else (some 92)) else (some 92)) else (some 92)) else (some 92)) else (some 92)) = some r := by rw [if_pos rfl] at H; exact H
              clear H
              have H := H1
              clear H1
              by_cases c75 : x5_12 = true
              ·subst c75
               have H1 : (if ((l0_8.length : Int) == 0) = true then (if a0_4 = 0 then (if a0_5 ≥ 0 then (if a0_5 ≤ 16384 then ((sumpref09_number.f a0_1).bind fun t141 => (if t141 = true then (some 0) else (some 92))) else (some 92)) else (some 92)) else (some 92)) else (some 92)) = some r := by rw [if_pos rfl] at H; exact H
               clear H
               have H := H1
               clear H1
               by_cases c76 : ((l0_8.length : Int) == 0) = true
               ·rw [if_pos c76] at H
                have c76b0 : ((l0_8.length : Int) == 0) = true := c76
                (try (have c76b1 : decide ((l0_8.length : Int) = 0) = true := by simpa using c76))
                (try (have c76b2 : ((l0_8.length : Int) == 0) = true := by simpa using c76))
                clear c76
                by_cases c77 : a0_4 = 0
                ·rw [if_pos c77] at H
                 have c77b0 : (a0_4 == 0) = true := beq_iff_eq.mpr c77
                 have c77b1 : (a0_4 != 0) = false := bne_eq_false_iff_eq.mpr c77
                 clear c77
                 by_cases c78 : a0_5 ≥ 0
                 ·rw [if_pos c78] at H
                  have c78b0 : decide (0 ≤ a0_5) = true := decide_eq_true c78
                  clear c78
                  by_cases c79 : a0_5 ≤ 16384
                  ·rw [if_pos c79] at H
                   have c79b0 : decide (a0_5 ≤ 16384) = true := decide_eq_true c79
                   clear c79
                   replace H := Option.bind_eq_some_iff.mp H
                   obtain ⟨t141, A800, H⟩ := H
                   replace H : (if t141 = true then (some 0) else (some 92)) = some r := H
                   have A80 := Aside0.mk A800
                   clear A800
                   by_cases c81 : t141 = true
                   ·subst c81
                    have H1 : (some 0) = some r := by rw [if_pos rfl] at H; exact H
                    clear H
                    have H := H1
                    clear H1
                    obtain rfl := Option.some.inj H
                    have hcz82_0 : wc.cell? ⟨gb132, 0, none⟩ = some (.int .i64 a0_0) := (blk_cell BK132.out 0).trans rfl
                    have hcz82_1 : wc.cell? ⟨gb132, 1, none⟩ = some (.int .i64 a0_1) := (blk_cell BK132.out 1).trans rfl
                    have hcz82_2 : wc.cell? ⟨gb132, 2, none⟩ = some (.int .i64 a0_2) := (blk_cell BK132.out 2).trans rfl
                    have hcz82_3 : wc.cell? ⟨gb132, 3, none⟩ = some (.int .i64 a0_3) := (blk_cell BK132.out 3).trans rfl
                    have hcz82_4 : wc.cell? ⟨gb132, 4, none⟩ = some (.int .i64 a0_4) := (blk_cell BK132.out 4).trans rfl
                    have hcz82_5 : wc.cell? ⟨gb132, 5, none⟩ = some (.int .i64 a0_5) := (blk_cell BK132.out 5).trans rfl
                    have hcz82_6 : wc.cell? ⟨gb132, 6, none⟩ = some (.string a0_6) := (blk_cell BK132.out 6).trans rfl
                    have hcz82_7 : wc.cell? ⟨gb132, 7, none⟩ = some (.string a0_7) := (blk_cell BK132.out 7).trans rfl
                    have hcz82_8 : wc.cell? ⟨gb132, 8, none⟩ = some (.slice A0_8 l0_8.length c0_8) := (blk_cell BK132.out 8).trans rfl
                    have hfz82_0 := blk_frozen BK132.out 0
                    have hfz82_1 := blk_frozen BK132.out 1
                    have hfz82_2 := blk_frozen BK132.out 2
                    have hfz82_3 := blk_frozen BK132.out 3
                    have hfz82_4 := blk_frozen BK132.out 4
                    have hfz82_5 := blk_frozen BK132.out 5
                    have hfz82_6 := blk_frozen BK132.out 6
                    have hfz82_7 := blk_frozen BK132.out 7
                    have hfz82_8 := blk_frozen BK132.out 8
                    go_wp2_with (first | (go_at_call 53; (with_reducible refine (sumpref09_number.calls a0_1 true _ A80.out).mono ?_); rintro e w' ⟨rfl, ⟨nd, rfl⟩⟩))
                    go_ret
                    exact ⟨by first | rfl | (simp [errW_none, errW_some] <;> rfl) | (simp [*, errW_none, errW_some] <;> rfl) | (refine L.ret_bool ?_; rw [Bool.eq_iff_iff]; simp; done) | (refine L.ret_bool ?_; rw [Bool.eq_iff_iff]; simp [*]; done), by repeat (first | (with_reducible first | exact HB.out | apply below_alloc | apply pw_below_drewN | apply below_drew1 | refine below_set ?_ GE132.out) | exact HB.out)⟩
                   ·replace c81 := Bool.eq_false_iff.mpr c81
                    subst c81
                    have H1 : (some 92) = some r := by rw [if_neg (show ¬ (false = true) by decide)] at H; exact H
                    clear H
                    have H := H1
                    clear H1
                    obtain rfl := Option.some.inj H
                    have hcz83_0 : wc.cell? ⟨gb132, 0, none⟩ = some (.int .i64 a0_0) := (blk_cell BK132.out 0).trans rfl
                    have hcz83_1 : wc.cell? ⟨gb132, 1, none⟩ = some (.int .i64 a0_1) := (blk_cell BK132.out 1).trans rfl
                    have hcz83_2 : wc.cell? ⟨gb132, 2, none⟩ = some (.int .i64 a0_2) := (blk_cell BK132.out 2).trans rfl
                    have hcz83_3 : wc.cell? ⟨gb132, 3, none⟩ = some (.int .i64 a0_3) := (blk_cell BK132.out 3).trans rfl
                    have hcz83_4 : wc.cell? ⟨gb132, 4, none⟩ = some (.int .i64 a0_4) := (blk_cell BK132.out 4).trans rfl
                    have hcz83_5 : wc.cell? ⟨gb132, 5, none⟩ = some (.int .i64 a0_5) := (blk_cell BK132.out 5).trans rfl
                    have hcz83_6 : wc.cell? ⟨gb132, 6, none⟩ = some (.string a0_6) := (blk_cell BK132.out 6).trans rfl
                    have hcz83_7 : wc.cell? ⟨gb132, 7, none⟩ = some (.string a0_7) := (blk_cell BK132.out 7).trans rfl
                    have hcz83_8 : wc.cell? ⟨gb132, 8, none⟩ = some (.slice A0_8 l0_8.length c0_8) := (blk_cell BK132.out 8).trans rfl
                    have hfz83_0 := blk_frozen BK132.out 0
                    have hfz83_1 := blk_frozen BK132.out 1
                    have hfz83_2 := blk_frozen BK132.out 2
                    have hfz83_3 := blk_frozen BK132.out 3
                    have hfz83_4 := blk_frozen BK132.out 4
                    have hfz83_5 := blk_frozen BK132.out 5
                    have hfz83_6 := blk_frozen BK132.out 6
                    have hfz83_7 := blk_frozen BK132.out 7
                    have hfz83_8 := blk_frozen BK132.out 8
                    go_wp2_with (first | (go_at_call 53; (with_reducible refine (sumpref09_number.calls a0_1 false _ A80.out).mono ?_); rintro e w' ⟨rfl, ⟨nd, rfl⟩⟩))
                    go_ret
                    exact ⟨by first | rfl | (simp [errW_none, errW_some] <;> rfl) | (simp [*, errW_none, errW_some] <;> rfl) | (refine L.ret_bool ?_; rw [Bool.eq_iff_iff]; simp; done) | (refine L.ret_bool ?_; rw [Bool.eq_iff_iff]; simp [*]; done), by repeat (first | (with_reducible first | exact HB.out | apply below_alloc | apply pw_below_drewN | apply below_drew1 | refine below_set ?_ GE132.out) | exact HB.out)⟩
                  ·rw [if_neg c79] at H
                   have c79b0 : decide (a0_5 ≤ 16384) = false := decide_eq_false c79
                   clear c79
                   obtain rfl := Option.some.inj H
                   have hcz84_0 : wc.cell? ⟨gb132, 0, none⟩ = some (.int .i64 a0_0) := (blk_cell BK132.out 0).trans rfl
                   have hcz84_1 : wc.cell? ⟨gb132, 1, none⟩ = some (.int .i64 a0_1) := (blk_cell BK132.out 1).trans rfl
                   have hcz84_2 : wc.cell? ⟨gb132, 2, none⟩ = some (.int .i64 a0_2) := (blk_cell BK132.out 2).trans rfl
                   have hcz84_3 : wc.cell? ⟨gb132, 3, none⟩ = some (.int .i64 a0_3) := (blk_cell BK132.out 3).trans rfl
                   have hcz84_4 : wc.cell? ⟨gb132, 4, none⟩ = some (.int .i64 a0_4) := (blk_cell BK132.out 4).trans rfl
                   have hcz84_5 : wc.cell? ⟨gb132, 5, none⟩ = some (.int .i64 a0_5) := (blk_cell BK132.out 5).trans rfl
                   have hcz84_6 : wc.cell? ⟨gb132, 6, none⟩ = some (.string a0_6) := (blk_cell BK132.out 6).trans rfl
                   have hcz84_7 : wc.cell? ⟨gb132, 7, none⟩ = some (.string a0_7) := (blk_cell BK132.out 7).trans rfl
                   have hcz84_8 : wc.cell? ⟨gb132, 8, none⟩ = some (.slice A0_8 l0_8.length c0_8) := (blk_cell BK132.out 8).trans rfl
                   have hfz84_0 := blk_frozen BK132.out 0
                   have hfz84_1 := blk_frozen BK132.out 1
                   have hfz84_2 := blk_frozen BK132.out 2
                   have hfz84_3 := blk_frozen BK132.out 3
                   have hfz84_4 := blk_frozen BK132.out 4
                   have hfz84_5 := blk_frozen BK132.out 5
                   have hfz84_6 := blk_frozen BK132.out 6
                   have hfz84_7 := blk_frozen BK132.out 7
                   have hfz84_8 := blk_frozen BK132.out 8
                   go_wp2
                   go_ret
                   exact ⟨by first | rfl | (simp [errW_none, errW_some] <;> rfl) | (simp [*, errW_none, errW_some] <;> rfl) | (refine L.ret_bool ?_; rw [Bool.eq_iff_iff]; simp; done) | (refine L.ret_bool ?_; rw [Bool.eq_iff_iff]; simp [*]; done), by repeat (first | (with_reducible first | exact HB.out | apply below_alloc | apply pw_below_drewN | apply below_drew1 | refine below_set ?_ GE132.out) | exact HB.out)⟩
                 ·rw [if_neg c78] at H
                  have c78b0 : decide (0 ≤ a0_5) = false := decide_eq_false c78
                  clear c78
                  obtain rfl := Option.some.inj H
                  have hcz85_0 : wc.cell? ⟨gb132, 0, none⟩ = some (.int .i64 a0_0) := (blk_cell BK132.out 0).trans rfl
                  have hcz85_1 : wc.cell? ⟨gb132, 1, none⟩ = some (.int .i64 a0_1) := (blk_cell BK132.out 1).trans rfl
                  have hcz85_2 : wc.cell? ⟨gb132, 2, none⟩ = some (.int .i64 a0_2) := (blk_cell BK132.out 2).trans rfl
                  have hcz85_3 : wc.cell? ⟨gb132, 3, none⟩ = some (.int .i64 a0_3) := (blk_cell BK132.out 3).trans rfl
                  have hcz85_4 : wc.cell? ⟨gb132, 4, none⟩ = some (.int .i64 a0_4) := (blk_cell BK132.out 4).trans rfl
                  have hcz85_5 : wc.cell? ⟨gb132, 5, none⟩ = some (.int .i64 a0_5) := (blk_cell BK132.out 5).trans rfl
                  have hcz85_6 : wc.cell? ⟨gb132, 6, none⟩ = some (.string a0_6) := (blk_cell BK132.out 6).trans rfl
                  have hcz85_7 : wc.cell? ⟨gb132, 7, none⟩ = some (.string a0_7) := (blk_cell BK132.out 7).trans rfl
                  have hcz85_8 : wc.cell? ⟨gb132, 8, none⟩ = some (.slice A0_8 l0_8.length c0_8) := (blk_cell BK132.out 8).trans rfl
                  have hfz85_0 := blk_frozen BK132.out 0
                  have hfz85_1 := blk_frozen BK132.out 1
                  have hfz85_2 := blk_frozen BK132.out 2
                  have hfz85_3 := blk_frozen BK132.out 3
                  have hfz85_4 := blk_frozen BK132.out 4
                  have hfz85_5 := blk_frozen BK132.out 5
                  have hfz85_6 := blk_frozen BK132.out 6
                  have hfz85_7 := blk_frozen BK132.out 7
                  have hfz85_8 := blk_frozen BK132.out 8
                  go_wp2
                  go_ret
                  exact ⟨by first | rfl | (simp [errW_none, errW_some] <;> rfl) | (simp [*, errW_none, errW_some] <;> rfl) | (refine L.ret_bool ?_; rw [Bool.eq_iff_iff]; simp; done) | (refine L.ret_bool ?_; rw [Bool.eq_iff_iff]; simp [*]; done), by repeat (first | (with_reducible first | exact HB.out | apply below_alloc | apply pw_below_drewN | apply below_drew1 | refine below_set ?_ GE132.out) | exact HB.out)⟩
                ·rw [if_neg c77] at H
                 have c77b0 : (a0_4 == 0) = false := beq_eq_false_iff_ne.mpr c77
                 have c77b1 : (a0_4 != 0) = true := bne_iff_ne.mpr c77
                 obtain rfl := Option.some.inj H
                 have hcz86_0 : wc.cell? ⟨gb132, 0, none⟩ = some (.int .i64 a0_0) := (blk_cell BK132.out 0).trans rfl
                 have hcz86_1 : wc.cell? ⟨gb132, 1, none⟩ = some (.int .i64 a0_1) := (blk_cell BK132.out 1).trans rfl
                 have hcz86_2 : wc.cell? ⟨gb132, 2, none⟩ = some (.int .i64 a0_2) := (blk_cell BK132.out 2).trans rfl
                 have hcz86_3 : wc.cell? ⟨gb132, 3, none⟩ = some (.int .i64 a0_3) := (blk_cell BK132.out 3).trans rfl
                 have hcz86_4 : wc.cell? ⟨gb132, 4, none⟩ = some (.int .i64 a0_4) := (blk_cell BK132.out 4).trans rfl
                 have hcz86_5 : wc.cell? ⟨gb132, 5, none⟩ = some (.int .i64 a0_5) := (blk_cell BK132.out 5).trans rfl
                 have hcz86_6 : wc.cell? ⟨gb132, 6, none⟩ = some (.string a0_6) := (blk_cell BK132.out 6).trans rfl
                 have hcz86_7 : wc.cell? ⟨gb132, 7, none⟩ = some (.string a0_7) := (blk_cell BK132.out 7).trans rfl
                 have hcz86_8 : wc.cell? ⟨gb132, 8, none⟩ = some (.slice A0_8 l0_8.length c0_8) := (blk_cell BK132.out 8).trans rfl
                 have hfz86_0 := blk_frozen BK132.out 0
                 have hfz86_1 := blk_frozen BK132.out 1
                 have hfz86_2 := blk_frozen BK132.out 2
                 have hfz86_3 := blk_frozen BK132.out 3
                 have hfz86_4 := blk_frozen BK132.out 4
                 have hfz86_5 := blk_frozen BK132.out 5
                 have hfz86_6 := blk_frozen BK132.out 6
                 have hfz86_7 := blk_frozen BK132.out 7
                 have hfz86_8 := blk_frozen BK132.out 8
                 go_wp2
                 go_ret
                 exact ⟨by first | rfl | (simp [errW_none, errW_some] <;> rfl) | (simp [*, errW_none, errW_some] <;> rfl) | (refine L.ret_bool ?_; rw [Bool.eq_iff_iff]; simp; done) | (refine L.ret_bool ?_; rw [Bool.eq_iff_iff]; simp [*]; done), by repeat (first | (with_reducible first | exact HB.out | apply below_alloc | apply pw_below_drewN | apply below_drew1 | refine below_set ?_ GE132.out) | exact HB.out)⟩
               ·rw [if_neg c76] at H
                have c76b0 : ((l0_8.length : Int) == 0) = false := by simpa using c76
                (try (have c76b1 : decide ((l0_8.length : Int) = 0) = false := by simpa using c76))
                (try (have c76b2 : ((l0_8.length : Int) == 0) = false := by simpa using c76))
                (try (have c76b3 : ¬ ((l0_8.length : Int) = 0) := by simpa using c76))
                clear c76
                obtain rfl := Option.some.inj H
                go_wp2
                go_ret
                exact ⟨by first | rfl | (simp [errW_none, errW_some] <;> rfl) | (simp [*, errW_none, errW_some] <;> rfl) | (refine L.ret_bool ?_; rw [Bool.eq_iff_iff]; simp; done) | (refine L.ret_bool ?_; rw [Bool.eq_iff_iff]; simp [*]; done), by repeat (first | (with_reducible first | exact HB.out | apply below_alloc | apply pw_below_drewN | apply below_drew1 | refine below_set ?_ GE132.out) | exact HB.out)⟩
              ·replace c75 := Bool.eq_false_iff.mpr c75
               subst c75
               have H1 : (some 92) = some r := by rw [if_neg (show ¬ (false = true) by decide)] at H; exact H
               clear H
               have H := H1
               clear H1
               obtain rfl := Option.some.inj H
               go_wp2
               go_ret
               exact ⟨by first | rfl | (simp [errW_none, errW_some] <;> rfl) | (simp [*, errW_none, errW_some] <;> rfl) | (refine L.ret_bool ?_; rw [Bool.eq_iff_iff]; simp; done) | (refine L.ret_bool ?_; rw [Bool.eq_iff_iff]; simp [*]; done), by repeat (first | (with_reducible first | exact HB.out | apply below_alloc | apply pw_below_drewN | apply below_drew1 | refine below_set ?_ GE132.out) | exact HB.out)⟩
             ·replace c74 := Bool.eq_false_iff.mpr c74
              subst c74
              have H1 : (some 92) = some r := by rw [if_neg (show ¬ (false = true) by decide)] at H; exact H
              clear H
              have H := H1
              clear H1
              obtain rfl := Option.some.inj H
              go_wp2
              go_ret
              exact ⟨by first | rfl | (simp [errW_none, errW_some] <;> rfl) | (simp [*, errW_none, errW_some] <;> rfl) | (refine L.ret_bool ?_; rw [Bool.eq_iff_iff]; simp; done) | (refine L.ret_bool ?_; rw [Bool.eq_iff_iff]; simp [*]; done), by repeat (first | (with_reducible first | exact HB.out | apply below_alloc | apply pw_below_drewN | apply below_drew1 | refine below_set ?_ GE132.out) | exact HB.out)⟩
            ·rw [if_neg c73] at H
             have c73b0 : (a0_0 == 6) = false := beq_eq_false_iff_ne.mpr c73
             have c73b1 : (a0_0 != 6) = true := bne_iff_ne.mpr c73
             by_cases c87 : a0_0 = 7
             ·rw [if_pos c87] at H
              have c87b0 : (a0_0 == 7) = true := beq_iff_eq.mpr c87
              have c87b1 : (a0_0 != 7) = false := bne_eq_false_iff_eq.mpr c87
              clear c87
              by_cases c88 : x4_8 = true
              ·subst c88
               have H1 : (if x5_12 = true then (if (l0_8.length : Int) = 256 then (if a0_4 ≥ 0 then (if a0_4 ≤ 63 then (if a0_5 ≤ 16384 then (if (a0_5 > (wrap64 (256 * a0_4))) then ((sumpref09_number.f a0_1).bind fun t142 => (if t142 = true then (some 0) else (some 92))) else (some 92)) else (some 92)) else (some 92)) else (some 92)) else (some 92)) else (some 92)) = some r := by rw [if_pos rfl] at H; exact H
               clear H
               have H := H1
               clear H1
               by_cases c89 : x5_12 = true
               ·subst c89
                have H1 : (if (l0_8.length : Int) = 256 then (if a0_4 ≥ 0 then (if a0_4 ≤ 63 then (if a0_5 ≤ 16384 then (if (a0_5 > (wrap64 (256 * a0_4))) then ((sumpref09_number.f a0_1).bind fun t142 => (if t142 = true then (some 0) else (some 92))) else (some 92)) else (some 92)) else (some 92)) else (some 92)) else (some 92)) = some r := by rw [if_pos rfl] at H; exact H
                clear H
                have H := H1
                clear H1
                by_cases c90 : (l0_8.length : Int) = 256
                ·rw [if_pos c90] at H
                 have c90b0 : ((l0_8.length : Int) == 256) = true := beq_iff_eq.mpr c90
                 have c90b1 : ((l0_8.length : Int) != 256) = false := bne_eq_false_iff_eq.mpr c90
                 clear c90
                 by_cases c91 : a0_4 ≥ 0
                 ·rw [if_pos c91] at H
                  have c91b0 : decide (0 ≤ a0_4) = true := decide_eq_true c91
                  clear c91
                  by_cases c92 : a0_4 ≤ 63
                  ·rw [if_pos c92] at H
                   have c92b0 : decide (a0_4 ≤ 63) = true := decide_eq_true c92
                   clear c92
                   by_cases c93 : a0_5 ≤ 16384
                   ·rw [if_pos c93] at H
                    have c93b0 : decide (a0_5 ≤ 16384) = true := decide_eq_true c93
                    clear c93
                    by_cases c94 : (a0_5 > (wrap64 (256 * a0_4)))
                    ·rw [if_pos c94] at H
                     have c94b0 : decide ((wrap64 (256 * a0_4)) < a0_5) = true := decide_eq_true c94
                     clear c94
                     replace H := Option.bind_eq_some_iff.mp H
                     obtain ⟨t142, A950, H⟩ := H
                     replace H : (if t142 = true then (some 0) else (some 92)) = some r := H
                     have A95 := Aside0.mk A950
                     clear A950
                     by_cases c96 : t142 = true
                     ·subst c96
                      have H1 : (some 0) = some r := by rw [if_pos rfl] at H; exact H
                      clear H
                      have H := H1
                      clear H1
                      obtain rfl := Option.some.inj H
                      have hcz97_0 : wc.cell? ⟨gb132, 0, none⟩ = some (.int .i64 a0_0) := (blk_cell BK132.out 0).trans rfl
                      have hcz97_1 : wc.cell? ⟨gb132, 1, none⟩ = some (.int .i64 a0_1) := (blk_cell BK132.out 1).trans rfl
                      have hcz97_2 : wc.cell? ⟨gb132, 2, none⟩ = some (.int .i64 a0_2) := (blk_cell BK132.out 2).trans rfl
                      have hcz97_3 : wc.cell? ⟨gb132, 3, none⟩ = some (.int .i64 a0_3) := (blk_cell BK132.out 3).trans rfl
                      have hcz97_4 : wc.cell? ⟨gb132, 4, none⟩ = some (.int .i64 a0_4) := (blk_cell BK132.out 4).trans rfl
                      have hcz97_5 : wc.cell? ⟨gb132, 5, none⟩ = some (.int .i64 a0_5) := (blk_cell BK132.out 5).trans rfl
                      have hcz97_6 : wc.cell? ⟨gb132, 6, none⟩ = some (.string a0_6) := (blk_cell BK132.out 6).trans rfl
                      have hcz97_7 : wc.cell? ⟨gb132, 7, none⟩ = some (.string a0_7) := (blk_cell BK132.out 7).trans rfl
                      have hcz97_8 : wc.cell? ⟨gb132, 8, none⟩ = some (.slice A0_8 l0_8.length c0_8) := (blk_cell BK132.out 8).trans rfl
                      have hfz97_0 := blk_frozen BK132.out 0
                      have hfz97_1 := blk_frozen BK132.out 1
                      have hfz97_2 := blk_frozen BK132.out 2
                      have hfz97_3 := blk_frozen BK132.out 3
                      have hfz97_4 := blk_frozen BK132.out 4
                      have hfz97_5 := blk_frozen BK132.out 5
                      have hfz97_6 := blk_frozen BK132.out 6
                      have hfz97_7 := blk_frozen BK132.out 7
                      have hfz97_8 := blk_frozen BK132.out 8
                      go_wp2_with (first | (go_at_call 53; (with_reducible refine (sumpref09_number.calls a0_1 true _ A95.out).mono ?_); rintro e w' ⟨rfl, ⟨nd, rfl⟩⟩))
                      go_ret
                      exact ⟨by first | rfl | (simp [errW_none, errW_some] <;> rfl) | (simp [*, errW_none, errW_some] <;> rfl) | (refine L.ret_bool ?_; rw [Bool.eq_iff_iff]; simp; done) | (refine L.ret_bool ?_; rw [Bool.eq_iff_iff]; simp [*]; done), by repeat (first | (with_reducible first | exact HB.out | apply below_alloc | apply pw_below_drewN | apply below_drew1 | refine below_set ?_ GE132.out) | exact HB.out)⟩
                     ·replace c96 := Bool.eq_false_iff.mpr c96
                      subst c96
                      have H1 : (some 92) = some r := by rw [if_neg (show ¬ (false = true) by decide)] at H; exact H
                      clear H
                      have H := H1
                      clear H1
                      obtain rfl := Option.some.inj H
                      have hcz98_0 : wc.cell? ⟨gb132, 0, none⟩ = some (.int .i64 a0_0) := (blk_cell BK132.out 0).trans rfl
                      have hcz98_1 : wc.cell? ⟨gb132, 1, none⟩ = some (.int .i64 a0_1) := (blk_cell BK132.out 1).trans rfl
                      have hcz98_2 : wc.cell? ⟨gb132, 2, none⟩ = some (.int .i64 a0_2) := (blk_cell BK132.out 2).trans rfl
                      have hcz98_3 : wc.cell? ⟨gb132, 3, none⟩ = some (.int .i64 a0_3) := (blk_cell BK132.out 3).trans rfl
                      have hcz98_4 : wc.cell? ⟨gb132, 4, none⟩ = some (.int .i64 a0_4) := (blk_cell BK132.out 4).trans rfl
                      have hcz98_5 : wc.cell? ⟨gb132, 5, none⟩ = some (.int .i64 a0_5) := (blk_cell BK132.out 5).trans rfl
                      have hcz98_6 : wc.cell? ⟨gb132, 6, none⟩ = some (.string a0_6) := (blk_cell BK132.out 6).trans rfl
                      have hcz98_7 : wc.cell? ⟨gb132, 7, none⟩ = some (.string a0_7) := (blk_cell BK132.out 7).trans rfl
                      have hcz98_8 : wc.cell? ⟨gb132, 8, none⟩ = some (.slice A0_8 l0_8.length c0_8) := (blk_cell BK132.out 8).trans rfl
                      have hfz98_0 := blk_frozen BK132.out 0
                      have hfz98_1 := blk_frozen BK132.out 1
                      have hfz98_2 := blk_frozen BK132.out 2
                      have hfz98_3 := blk_frozen BK132.out 3
                      have hfz98_4 := blk_frozen BK132.out 4
                      have hfz98_5 := blk_frozen BK132.out 5
                      have hfz98_6 := blk_frozen BK132.out 6
                      have hfz98_7 := blk_frozen BK132.out 7
                      have hfz98_8 := blk_frozen BK132.out 8
                      go_wp2_with (first | (go_at_call 53; (with_reducible refine (sumpref09_number.calls a0_1 false _ A95.out).mono ?_); rintro e w' ⟨rfl, ⟨nd, rfl⟩⟩))
                      go_ret
                      exact ⟨by first | rfl | (simp [errW_none, errW_some] <;> rfl) | (simp [*, errW_none, errW_some] <;> rfl) | (refine L.ret_bool ?_; rw [Bool.eq_iff_iff]; simp; done) | (refine L.ret_bool ?_; rw [Bool.eq_iff_iff]; simp [*]; done), by repeat (first | (with_reducible first | exact HB.out | apply below_alloc | apply pw_below_drewN | apply below_drew1 | refine below_set ?_ GE132.out) | exact HB.out)⟩
                    ·rw [if_neg c94] at H
                     have c94b0 : decide ((wrap64 (256 * a0_4)) < a0_5) = false := decide_eq_false c94
                     clear c94
                     obtain rfl := Option.some.inj H
                     have hcz99_0 : wc.cell? ⟨gb132, 0, none⟩ = some (.int .i64 a0_0) := (blk_cell BK132.out 0).trans rfl
                     have hcz99_1 : wc.cell? ⟨gb132, 1, none⟩ = some (.int .i64 a0_1) := (blk_cell BK132.out 1).trans rfl
                     have hcz99_2 : wc.cell? ⟨gb132, 2, none⟩ = some (.int .i64 a0_2) := (blk_cell BK132.out 2).trans rfl
                     have hcz99_3 : wc.cell? ⟨gb132, 3, none⟩ = some (.int .i64 a0_3) := (blk_cell BK132.out 3).trans rfl
                     have hcz99_4 : wc.cell? ⟨gb132, 4, none⟩ = some (.int .i64 a0_4) := (blk_cell BK132.out 4).trans rfl
                     have hcz99_5 : wc.cell? ⟨gb132, 5, none⟩ = some (.int .i64 a0_5) := (blk_cell BK132.out 5).trans rfl
                     have hcz99_6 : wc.cell? ⟨gb132, 6, none⟩ = some (.string a0_6) := (blk_cell BK132.out 6).trans rfl
                     have hcz99_7 : wc.cell? ⟨gb132, 7, none⟩ = some (.string a0_7) := (blk_cell BK132.out 7).trans rfl
                     have hcz99_8 : wc.cell? ⟨gb132, 8, none⟩ = some (.slice A0_8 l0_8.length c0_8) := (blk_cell BK132.out 8).trans rfl
                     have hfz99_0 := blk_frozen BK132.out 0
                     have hfz99_1 := blk_frozen BK132.out 1
                     have hfz99_2 := blk_frozen BK132.out 2
                     have hfz99_3 := blk_frozen BK132.out 3
                     have hfz99_4 := blk_frozen BK132.out 4
                     have hfz99_5 := blk_frozen BK132.out 5
                     have hfz99_6 := blk_frozen BK132.out 6
                     have hfz99_7 := blk_frozen BK132.out 7
                     have hfz99_8 := blk_frozen BK132.out 8
                     go_wp2
                     go_ret
                     exact ⟨by first | rfl | (simp [errW_none, errW_some] <;> rfl) | (simp [*, errW_none, errW_some] <;> rfl) | (refine L.ret_bool ?_; rw [Bool.eq_iff_iff]; simp; done) | (refine L.ret_bool ?_; rw [Bool.eq_iff_iff]; simp [*]; done), by repeat (first | (with_reducible first | exact HB.out | apply below_alloc | apply pw_below_drewN | apply below_drew1 | refine below_set ?_ GE132.out) | exact HB.out)⟩
                   ·rw [if_neg c93] at H
                    have c93b0 : decide (a0_5 ≤ 16384) = false := decide_eq_false c93
                    clear c93
                    obtain rfl := Option.some.inj H
                    have hcz100_0 : wc.cell? ⟨gb132, 0, none⟩ = some (.int .i64 a0_0) := (blk_cell BK132.out 0).trans rfl
                    have hcz100_1 : wc.cell? ⟨gb132, 1, none⟩ = some (.int .i64 a0_1) := (blk_cell BK132.out 1).trans rfl
                    have hcz100_2 : wc.cell? ⟨gb132, 2, none⟩ = some (.int .i64 a0_2) := (blk_cell BK132.out 2).trans rfl
                    have hcz100_3 : wc.cell? ⟨gb132, 3, none⟩ = some (.int .i64 a0_3) := (blk_cell BK132.out 3).trans rfl
                    have hcz100_4 : wc.cell? ⟨gb132, 4, none⟩ = some (.int .i64 a0_4) := (blk_cell BK132.out 4).trans rfl
                    have hcz100_5 : wc.cell? ⟨gb132, 5, none⟩ = some (.int .i64 a0_5) := (blk_cell BK132.out 5).trans rfl
                    have hcz100_6 : wc.cell? ⟨gb132, 6, none⟩ = some (.string a0_6) := (blk_cell BK132.out 6).trans rfl
                    have hcz100_7 : wc.cell? ⟨gb132, 7, none⟩ = some (.string a0_7) := (blk_cell BK132.out 7).trans rfl
                    have hcz100_8 : wc.cell? ⟨gb132, 8, none⟩ = some (.slice A0_8 l0_8.length c0_8) := (blk_cell BK132.out 8).trans rfl
                    have hfz100_0 := blk_frozen BK132.out 0
                    have hfz100_1 := blk_frozen BK132.out 1
                    have hfz100_2 := blk_frozen BK132.out 2
                    have hfz100_3 := blk_frozen BK132.out 3
                    have hfz100_4 := blk_frozen BK132.out 4
                    have hfz100_5 := blk_frozen BK132.out 5
                    have hfz100_6 := blk_frozen BK132.out 6
                    have hfz100_7 := blk_frozen BK132.out 7
                    have hfz100_8 := blk_frozen BK132.out 8
                    go_wp2
                    go_ret
                    exact ⟨by first | rfl | (simp [errW_none, errW_some] <;> rfl) | (simp [*, errW_none, errW_some] <;> rfl) | (refine L.ret_bool ?_; rw [Bool.eq_iff_iff]; simp; done) | (refine L.ret_bool ?_; rw [Bool.eq_iff_iff]; simp [*]; done), by repeat (first | (with_reducible first | exact HB.out | apply below_alloc | apply pw_below_drewN | apply below_drew1 | refine below_set ?_ GE132.out) | exact HB.out)⟩
                  ·rw [if_neg c92] at H
                   have c92b0 : decide (a0_4 ≤ 63) = false := decide_eq_false c92
                   clear c92
                   obtain rfl := Option.some.inj H
                   have hcz101_0 : wc.cell? ⟨gb132, 0, none⟩ = some (.int .i64 a0_0) := (blk_cell BK132.out 0).trans rfl
                   have hcz101_1 : wc.cell? ⟨gb132, 1, none⟩ = some (.int .i64 a0_1) := (blk_cell BK132.out 1).trans rfl
                   have hcz101_2 : wc.cell? ⟨gb132, 2, none⟩ = some (.int .i64 a0_2) := (blk_cell BK132.out 2).trans rfl
                   have hcz101_3 : wc.cell? ⟨gb132, 3, none⟩ = some (.int .i64 a0_3) := (blk_cell BK132.out 3).trans rfl
                   have hcz101_4 : wc.cell? ⟨gb132, 4, none⟩ = some (.int .i64 a0_4) := (blk_cell BK132.out 4).trans rfl
                   have hcz101_5 : wc.cell? ⟨gb132, 5, none⟩ = some (.int .i64 a0_5) := (blk_cell BK132.out 5).trans rfl
                   have hcz101_6 : wc.cell? ⟨gb132, 6, none⟩ = some (.string a0_6) := (blk_cell BK132.out 6).trans rfl
                   have hcz101_7 : wc.cell? ⟨gb132, 7, none⟩ = some (.string a0_7) := (blk_cell BK132.out 7).trans rfl
                   have hcz101_8 : wc.cell? ⟨gb132, 8, none⟩ = some (.slice A0_8 l0_8.length c0_8) := (blk_cell BK132.out 8).trans rfl
                   have hfz101_0 := blk_frozen BK132.out 0
                   have hfz101_1 := blk_frozen BK132.out 1
                   have hfz101_2 := blk_frozen BK132.out 2
                   have hfz101_3 := blk_frozen BK132.out 3
                   have hfz101_4 := blk_frozen BK132.out 4
                   have hfz101_5 := blk_frozen BK132.out 5
                   have hfz101_6 := blk_frozen BK132.out 6
                   have hfz101_7 := blk_frozen BK132.out 7
                   have hfz101_8 := blk_frozen BK132.out 8
                   go_wp2
                   go_ret
                   exact ⟨by first | rfl | (simp [errW_none, errW_some] <;> rfl) | (simp [*, errW_none, errW_some] <;> rfl) | (refine L.ret_bool ?_; rw [Bool.eq_iff_iff]; simp; done) | (refine L.ret_bool ?_; rw [Bool.eq_iff_iff]; simp [*]; done), by repeat (first | (with_reducible first | exact HB.out | apply below_alloc | apply pw_below_drewN | apply below_drew1 | refine below_set ?_ GE132.out) | exact HB.out)⟩
                 ·rw [if_neg c91] at H
                  have c91b0 : decide (0 ≤ a0_4) = false := decide_eq_false c91
                  clear c91
                  obtain rfl := Option.some.inj H
                  have hcz102_0 : wc.cell? ⟨gb132, 0, none⟩ = some (.int .i64 a0_0) := (blk_cell BK132.out 0).trans rfl
                  have hcz102_1 : wc.cell? ⟨gb132, 1, none⟩ = some (.int .i64 a0_1) := (blk_cell BK132.out 1).trans rfl
                  have hcz102_2 : wc.cell? ⟨gb132, 2, none⟩ = some (.int .i64 a0_2) := (blk_cell BK132.out 2).trans rfl
                  have hcz102_3 : wc.cell? ⟨gb132, 3, none⟩ = some (.int .i64 a0_3) := (blk_cell BK132.out 3).trans rfl
                  have hcz102_4 : wc.cell? ⟨gb132, 4, none⟩ = some (.int .i64 a0_4) := (blk_cell BK132.out 4).trans rfl
                  have hcz102_5 : wc.cell? ⟨gb132, 5, none⟩ = some (.int .i64 a0_5) := (blk_cell BK132.out 5).trans rfl
                  have hcz102_6 : wc.cell? ⟨gb132, 6, none⟩ = some (.string a0_6) := (blk_cell BK132.out 6).trans rfl
                  have hcz102_7 : wc.cell? ⟨gb132, 7, none⟩ = some (.string a0_7) := (blk_cell BK132.out 7).trans rfl
                  have hcz102_8 : wc.cell? ⟨gb132, 8, none⟩ = some (.slice A0_8 l0_8.length c0_8) := (blk_cell BK132.out 8).trans rfl
                  have hfz102_0 := blk_frozen BK132.out 0
                  have hfz102_1 := blk_frozen BK132.out 1
                  have hfz102_2 := blk_frozen BK132.out 2
                  have hfz102_3 := blk_frozen BK132.out 3
                  have hfz102_4 := blk_frozen BK132.out 4
                  have hfz102_5 := blk_frozen BK132.out 5
                  have hfz102_6 := blk_frozen BK132.out 6
                  have hfz102_7 := blk_frozen BK132.out 7
                  have hfz102_8 := blk_frozen BK132.out 8
                  go_wp2
                  go_ret
                  exact ⟨by first | rfl | (simp [errW_none, errW_some] <;> rfl) | (simp [*, errW_none, errW_some] <;> rfl) | (refine L.ret_bool ?_; rw [Bool.eq_iff_iff]; simp; done) | (refine L.ret_bool ?_; rw [Bool.eq_iff_iff]; simp [*]; done), by repeat (first | (with_reducible first | exact HB.out | apply below_alloc | apply pw_below_drewN | apply below_drew1 | refine below_set ?_ GE132.out) | exact HB.out)⟩
                ·rw [if_neg c90] at H
                 have c90b0 : ((l0_8.length : Int) == 256) = false := beq_eq_false_iff_ne.mpr c90
                 have c90b1 : ((l0_8.length : Int) != 256) = true := bne_iff_ne.mpr c90
                 obtain rfl := Option.some.inj H
                 have hcz103_0 : wc.cell? ⟨gb132, 0, none⟩ = some (.int .i64 a0_0) := (blk_cell BK132.out 0).trans rfl
                 have hcz103_1 : wc.cell? ⟨gb132, 1, none⟩ = some (.int .i64 a0_1) := (blk_cell BK132.out 1).trans rfl
                 have hcz103_2 : wc.cell? ⟨gb132, 2, none⟩ = some (.int .i64 a0_2) := (blk_cell BK132.out 2).trans rfl
                 have hcz103_3 : wc.cell? ⟨gb132, 3, none⟩ = some (.int .i64 a0_3) := (blk_cell BK132.out 3).trans rfl
                 have hcz103_4 : wc.cell? ⟨gb132, 4, none⟩ = some (.int .i64 a0_4) := (blk_cell BK132.out 4).trans rfl
                 have hcz103_5 : wc.cell? ⟨gb132, 5, none⟩ = some (.int .i64 a0_5) := (blk_cell BK132.out 5).trans rfl
                 have hcz103_6 : wc.cell? ⟨gb132, 6, none⟩ = some (.string a0_6) := (blk_cell BK132.out 6).trans rfl
                 have hcz103_7 : wc.cell? ⟨gb132, 7, none⟩ = some (.string a0_7) := (blk_cell BK132.out 7).trans rfl
                 have hcz103_8 : wc.cell? ⟨gb132, 8, none⟩ = some (.slice A0_8 l0_8.length c0_8) := (blk_cell BK132.out 8).trans rfl
                 have hfz103_0 := blk_frozen BK132.out 0
                 have hfz103_1 := blk_frozen BK132.out 1
                 have hfz103_2 := blk_frozen BK132.out 2
                 have hfz103_3 := blk_frozen BK132.out 3
                 have hfz103_4 := blk_frozen BK132.out 4
                 have hfz103_5 := blk_frozen BK132.out 5
                 have hfz103_6 := blk_frozen BK132.out 6
                 have hfz103_7 := blk_frozen BK132.out 7
                 have hfz103_8 := blk_frozen BK132.out 8
                 go_wp2
                 go_ret
                 exact ⟨by first | rfl | (simp [errW_none, errW_some] <;> rfl) | (simp [*, errW_none, errW_some] <;> rfl) | (refine L.ret_bool ?_; rw [Bool.eq_iff_iff]; simp; done) | (refine L.ret_bool ?_; rw [Bool.eq_iff_iff]; simp [*]; done), by repeat (first | (with_reducible first | exact HB.out | apply below_alloc | apply pw_below_drewN | apply below_drew1 | refine below_set ?_ GE132.out) | exact HB.out)⟩
               ·replace c89 := Bool.eq_false_iff.mpr c89
                subst c89
                have H1 : (some 92) = some r := by rw [if_neg (show ¬ (false = true) by decide)] at H; exact H
                clear H
                have H := H1
                clear H1
                obtain rfl := Option.some.inj H
                go_wp2
                go_ret
                exact ⟨by first | rfl | (simp [errW_none, errW_some] <;> rfl) | (simp [*, errW_none, errW_some] <;> rfl) | (refine L.ret_bool ?_; rw [Bool.eq_iff_iff]; simp; done) | (refine L.ret_bool ?_; rw [Bool.eq_iff_iff]; simp [*]; done), by repeat (first | (with_reducible first | exact HB.out | apply below_alloc | apply pw_below_drewN | apply below_drew1 | refine below_set ?_ GE132.out) | exact HB.out)⟩
              ·replace c88 := Bool.eq_false_iff.mpr c88
               subst c88
               have H1 : (some 92) = some r := by rw [if_neg (show ¬ (false = true) by decide)] at H; exact H
               clear H
               have H := H1
               clear H1
               obtain rfl := Option.some.inj H
               go_wp2
               go_ret
               exact ⟨by first | rfl | (simp [errW_none, errW_some] <;> rfl) | (simp [*, errW_none, errW_some] <;> rfl) | (refine L.ret_bool ?_; rw [Bool.eq_iff_iff]; simp; done) | (refine L.ret_bool ?_; rw [Bool.eq_iff_iff]; simp [*]; done), by repeat (first | (with_reducible first | exact HB.out | apply below_alloc | apply pw_below_drewN | apply below_drew1 | refine below_set ?_ GE132.out) | exact HB.out)⟩
             ·rw [if_neg c87] at H
              have c87b0 : (a0_0 == 7) = false := beq_eq_false_iff_ne.mpr c87
              have c87b1 : (a0_0 != 7) = true := bne_iff_ne.mpr c87
              by_cases c104 : a0_0 = 8
              ·rw [if_pos c104] at H
               have c104b0 : (a0_0 == 8) = true := beq_iff_eq.mpr c104
               have c104b1 : (a0_0 != 8) = false := bne_eq_false_iff_eq.mpr c104
               clear c104
               by_cases c105 : x4_8 = true
               ·subst c105
                have H1 : (if x5_12 = true then (if ((l0_8.length : Int) == 0) = true then (if a0_4 = 0 then (if a0_5 = 0 then ((sumpref09_number.f a0_1).bind fun t143 => (if t143 = true then (some 0) else (some 92))) else (some 92)) else (some 92)) else (some 92)) else (some 92)) = some r := by rw [if_pos rfl] at H; exact H
                clear H
                have H := H1
                clear H1
                by_cases c106 : x5_12 = true
                ·subst c106
                 have H1 : (if ((l0_8.length : Int) == 0) = true then (if a0_4 = 0 then (if a0_5 = 0 then ((sumpref09_number.f a0_1).bind fun t143 => (if t143 = true then (some 0) else (some 92))) else (some 92)) else (some 92)) else (some 92)) = some r := by rw [if_pos rfl] at H; exact H
                 clear H
                 have H := H1
                 clear H1
                 by_cases c107 : ((l0_8.length : Int) == 0) = true
                 ·rw [if_pos c107] at H
                  have c107b0 : ((l0_8.length : Int) == 0) = true := c107
                  (try (have c107b1 : decide ((l0_8.length : Int) = 0) = true := by simpa using c107))
                  (try (have c107b2 : ((l0_8.length : Int) == 0) = true := by simpa using c107))
                  clear c107
                  by_cases c108 : a0_4 = 0
                  ·rw [if_pos c108] at H
                   have c108b0 : (a0_4 == 0) = true := beq_iff_eq.mpr c108
                   have c108b1 : (a0_4 != 0) = false := bne_eq_false_iff_eq.mpr c108
                   clear c108
                   by_cases c109 : a0_5 = 0
                   ·rw [if_pos c109] at H
                    have c109b0 : (a0_5 == 0) = true := beq_iff_eq.mpr c109
                    have c109b1 : (a0_5 != 0) = false := bne_eq_false_iff_eq.mpr c109
                    clear c109
                    replace H := Option.bind_eq_some_iff.mp H
                    obtain ⟨t143, A1100, H⟩ := H
                    replace H : (if t143 = true then (some 0) else (some 92)) = some r := H
                    have A110 := Aside0.mk A1100
                    clear A1100
                    by_cases c111 : t143 = true
                    ·subst c111
                     have H1 : (some 0) = some r := by rw [if_pos rfl] at H; exact H
                     clear H
                     have H := H1
                     clear H1
                     obtain rfl := Option.some.inj H
                     have hcz112_0 : wc.cell? ⟨gb132, 0, none⟩ = some (.int .i64 a0_0) := (blk_cell BK132.out 0).trans rfl
                     have hcz112_1 : wc.cell? ⟨gb132, 1, none⟩ = some (.int .i64 a0_1) := (blk_cell BK132.out 1).trans rfl
                     have hcz112_2 : wc.cell? ⟨gb132, 2, none⟩ = some (.int .i64 a0_2) := (blk_cell BK132.out 2).trans rfl
                     have hcz112_3 : wc.cell? ⟨gb132, 3, none⟩ = some (.int .i64 a0_3) := (blk_cell BK132.out 3).trans rfl
                     have hcz112_4 : wc.cell? ⟨gb132, 4, none⟩ = some (.int .i64 a0_4) := (blk_cell BK132.out 4).trans rfl
                     have hcz112_5 : wc.cell? ⟨gb132, 5, none⟩ = some (.int .i64 a0_5) := (blk_cell BK132.out 5).trans rfl
                     have hcz112_6 : wc.cell? ⟨gb132, 6, none⟩ = some (.string a0_6) := (blk_cell BK132.out 6).trans rfl
                     have hcz112_7 : wc.cell? ⟨gb132, 7, none⟩ = some (.string a0_7) := (blk_cell BK132.out 7).trans rfl
                     have hcz112_8 : wc.cell? ⟨gb132, 8, none⟩ = some (.slice A0_8 l0_8.length c0_8) := (blk_cell BK132.out 8).trans rfl
                     have hfz112_0 := blk_frozen BK132.out 0
                     have hfz112_1 := blk_frozen BK132.out 1
                     have hfz112_2 := blk_frozen BK132.out 2
                     have hfz112_3 := blk_frozen BK132.out 3
                     have hfz112_4 := blk_frozen BK132.out 4
                     have hfz112_5 := blk_frozen BK132.out 5
                     have hfz112_6 := blk_frozen BK132.out 6
                     have hfz112_7 := blk_frozen BK132.out 7
                     have hfz112_8 := blk_frozen BK132.out 8
                     go_wp2_with (first | (go_at_call 53; (with_reducible refine (sumpref09_number.calls a0_1 true _ A110.out).mono ?_); rintro e w' ⟨rfl, ⟨nd, rfl⟩⟩))
                     go_ret
                     exact ⟨by first | rfl | (simp [errW_none, errW_some] <;> rfl) | (simp [*, errW_none, errW_some] <;> rfl) | (refine L.ret_bool ?_; rw [Bool.eq_iff_iff]; simp; done) | (refine L.ret_bool ?_; rw [Bool.eq_iff_iff]; simp [*]; done), by repeat (first | (with_reducible first | exact HB.out | apply below_alloc | apply pw_below_drewN | apply below_drew1 | refine below_set ?_ GE132.out) | exact HB.out)⟩
                    ·replace c111 := Bool.eq_false_iff.mpr c111
                     subst c111
                     have H1 : (some 92) = some r := by rw [if_neg (show ¬ (false = true) by decide)] at H; exact H
                     clear H
                     have H := H1
                     clear H1
                     obtain rfl := Option.some.inj H
                     have hcz113_0 : wc.cell? ⟨gb132, 0, none⟩ = some (.int .i64 a0_0) := (blk_cell BK132.out 0).trans rfl
                     have hcz113_1 : wc.cell? ⟨gb132, 1, none⟩ = some (.int .i64 a0_1) := (blk_cell BK132.out 1).trans rfl
                     have hcz113_2 : wc.cell? ⟨gb132, 2, none⟩ = some (.int .i64 a0_2) := (blk_cell BK132.out 2).trans rfl
                     have hcz113_3 : wc.cell? ⟨gb132, 3, none⟩ = some (.int .i64 a0_3) := (blk_cell BK132.out 3).trans rfl
                     have hcz113_4 : wc.cell? ⟨gb132, 4, none⟩ = some (.int .i64 a0_4) := (blk_cell BK132.out 4).trans rfl
                     have hcz113_5 : wc.cell? ⟨gb132, 5, none⟩ = some (.int .i64 a0_5) := (blk_cell BK132.out 5).trans rfl
                     have hcz113_6 : wc.cell? ⟨gb132, 6, none⟩ = some (.string a0_6) := (blk_cell BK132.out 6).trans rfl
                     have hcz113_7 : wc.cell? ⟨gb132, 7, none⟩ = some (.string a0_7) := (blk_cell BK132.out 7).trans rfl
                     have hcz113_8 : wc.cell? ⟨gb132, 8, none⟩ = some (.slice A0_8 l0_8.length c0_8) := (blk_cell BK132.out 8).trans rfl
                     have hfz113_0 := blk_frozen BK132.out 0
                     have hfz113_1 := blk_frozen BK132.out 1
                     have hfz113_2 := blk_frozen BK132.out 2
                     have hfz113_3 := blk_frozen BK132.out 3
                     have hfz113_4 := blk_frozen BK132.out 4
                     have hfz113_5 := blk_frozen BK132.out 5
                     have hfz113_6 := blk_frozen BK132.out 6
                     have hfz113_7 := blk_frozen BK132.out 7
                     have hfz113_8 := blk_frozen BK132.out 8
                     go_wp2_with (first | (go_at_call 53; (with_reducible refine (sumpref09_number.calls a0_1 false _ A110.out).mono ?_); rintro e w' ⟨rfl, ⟨nd, rfl⟩⟩))
                     go_ret
                     exact ⟨by first | rfl | (simp [errW_none, errW_some] <;> rfl) | (simp [*, errW_none, errW_some] <;> rfl) | (refine L.ret_bool ?_; rw [Bool.eq_iff_iff]; simp; done) | (refine L.ret_bool ?_; rw [Bool.eq_iff_iff]; simp [*]; done), by repeat (first | (with_reducible first | exact HB.out | apply below_alloc | apply pw_below_drewN | apply below_drew1 | refine below_set ?_ GE132.out) | exact HB.out)⟩
                   ·rw [if_neg c109] at H
                    have c109b0 : (a0_5 == 0) = false := beq_eq_false_iff_ne.mpr c109
                    have c109b1 : (a0_5 != 0) = true := bne_iff_ne.mpr c109
                    obtain rfl := Option.some.inj H
                    have hcz114_0 : wc.cell? ⟨gb132, 0, none⟩ = some (.int .i64 a0_0) := (blk_cell BK132.out 0).trans rfl
                    have hcz114_1 : wc.cell? ⟨gb132, 1, none⟩ = some (.int .i64 a0_1) := (blk_cell BK132.out 1).trans rfl
                    have hcz114_2 : wc.cell? ⟨gb132, 2, none⟩ = some (.int .i64 a0_2) := (blk_cell BK132.out 2).trans rfl
                    have hcz114_3 : wc.cell? ⟨gb132, 3, none⟩ = some (.int .i64 a0_3) := (blk_cell BK132.out 3).trans rfl
                    have hcz114_4 : wc.cell? ⟨gb132, 4, none⟩ = some (.int .i64 a0_4) := (blk_cell BK132.out 4).trans rfl
                    have hcz114_5 : wc.cell? ⟨gb132, 5, none⟩ = some (.int .i64 a0_5) := (blk_cell BK132.out 5).trans rfl
                    have hcz114_6 : wc.cell? ⟨gb132, 6, none⟩ = some (.string a0_6) := (blk_cell BK132.out 6).trans rfl
                    have hcz114_7 : wc.cell? ⟨gb132, 7, none⟩ = some (.string a0_7) := (blk_cell BK132.out 7).trans rfl
                    have hcz114_8 : wc.cell? ⟨gb132, 8, none⟩ = some (.slice A0_8 l0_8.length c0_8) := (blk_cell BK132.out 8).trans rfl
                    have hfz114_0 := blk_frozen BK132.out 0
                    have hfz114_1 := blk_frozen BK132.out 1
                    have hfz114_2 := blk_frozen BK132.out 2
                    have hfz114_3 := blk_frozen BK132.out 3
                    have hfz114_4 := blk_frozen BK132.out 4
                    have hfz114_5 := blk_frozen BK132.out 5
                    have hfz114_6 := blk_frozen BK132.out 6
                    have hfz114_7 := blk_frozen BK132.out 7
                    have hfz114_8 := blk_frozen BK132.out 8
                    go_wp2
                    go_ret
                    exact ⟨by first | rfl | (simp [errW_none, errW_some] <;> rfl) | (simp [*, errW_none, errW_some] <;> rfl) | (refine L.ret_bool ?_; rw [Bool.eq_iff_iff]; simp; done) | (refine L.ret_bool ?_; rw [Bool.eq_iff_iff]; simp [*]; done), by repeat (first | (with_reducible first | exact HB.out | apply below_alloc | apply pw_below_drewN | apply below_drew1 | refine below_set ?_ GE132.out) | exact HB.out)⟩
                  ·rw [if_neg c108] at H
                   have c108b0 : (a0_4 == 0) = false := beq_eq_false_iff_ne.mpr c108
                   have c108b1 : (a0_4 != 0) = true := bne_iff_ne.mpr c108
                   obtain rfl := Option.some.inj H
                   have hcz115_0 : wc.cell? ⟨gb132, 0, none⟩ = some (.int .i64 a0_0) := (blk_cell BK132.out 0).trans rfl
                   have hcz115_1 : wc.cell? ⟨gb132, 1, none⟩ = some (.int .i64 a0_1) := (blk_cell BK132.out 1).trans rfl
                   have hcz115_2 : wc.cell? ⟨gb132, 2, none⟩ = some (.int .i64 a0_2) := (blk_cell BK132.out 2).trans rfl
                   have hcz115_3 : wc.cell? ⟨gb132, 3, none⟩ = some (.int .i64 a0_3) := (blk_cell BK132.out 3).trans rfl
                   have hcz115_4 : wc.cell? ⟨gb132, 4, none⟩ = some (.int .i64 a0_4) := (blk_cell BK132.out 4).trans rfl
                   have hcz115_5 : wc.cell? ⟨gb132, 5, none⟩ = some (.int .i64 a0_5) := (blk_cell BK132.out 5).trans rfl
                   have hcz115_6 : wc.cell? ⟨gb132, 6, none⟩ = some (.string a0_6) := (blk_cell BK132.out 6).trans rfl
                   have hcz115_7 : wc.cell? ⟨gb132, 7, none⟩ = some (.string a0_7) := (blk_cell BK132.out 7).trans rfl
                   have hcz115_8 : wc.cell? ⟨gb132, 8, none⟩ = some (.slice A0_8 l0_8.length c0_8) := (blk_cell BK132.out 8).trans rfl
                   have hfz115_0 := blk_frozen BK132.out 0
                   have hfz115_1 := blk_frozen BK132.out 1
                   have hfz115_2 := blk_frozen BK132.out 2
                   have hfz115_3 := blk_frozen BK132.out 3
                   have hfz115_4 := blk_frozen BK132.out 4
                   have hfz115_5 := blk_frozen BK132.out 5
                   have hfz115_6 := blk_frozen BK132.out 6
                   have hfz115_7 := blk_frozen BK132.out 7
                   have hfz115_8 := blk_frozen BK132.out 8
                   go_wp2
                   go_ret
                   exact ⟨by first | rfl | (simp [errW_none, errW_some] <;> rfl) | (simp [*, errW_none, errW_some] <;> rfl) | (refine L.ret_bool ?_; rw [Bool.eq_iff_iff]; simp; done) | (refine L.ret_bool ?_; rw [Bool.eq_iff_iff]; simp [*]; done), by repeat (first | (with_reducible first | exact HB.out | apply below_alloc | apply pw_below_drewN | apply below_drew1 | refine below_set ?_ GE132.out) | exact HB.out)⟩
                 ·rw [if_neg c107] at H
                  have c107b0 : ((l0_8.length : Int) == 0) = false := by simpa using c107
                  (try (have c107b1 : decide ((l0_8.length : Int) = 0) = false := by simpa using c107))
                  (try (have c107b2 : ((l0_8.length : Int) == 0) = false := by simpa using c107))
                  (try (have c107b3 : ¬ ((l0_8.length : Int) = 0) := by simpa using c107))
                  clear c107
                  obtain rfl := Option.some.inj H
                  go_wp2
                  go_ret
                  exact ⟨by first | rfl | (simp [errW_none, errW_some] <;> rfl) | (simp [*, errW_none, errW_some] <;> rfl) | (refine L.ret_bool ?_; rw [Bool.eq_iff_iff]; simp; done) | (refine L.ret_bool ?_; rw [Bool.eq_iff_iff]; simp [*]; done), by repeat (first | (with_reducible first | exact HB.out | apply below_alloc | apply pw_below_drewN | apply below_drew1 | refine below_set ?_ GE132.out) | exact HB.out)⟩
                ·replace c106 := Bool.eq_false_iff.mpr c106
                 subst c106
                 have H1 : (some 92) = some r := by rw [if_neg (show ¬ (false = true) by decide)] at H; exact H
                 clear H
                 have H := H1
                 clear H1
                 obtain rfl := Option.some.inj H
                 go_wp2
                 go_ret
                 exact ⟨by first | rfl | (simp [errW_none, errW_some] <;> rfl) | (simp [*, errW_none, errW_some] <;> rfl) | (refine L.ret_bool ?_; rw [Bool.eq_iff_iff]; simp; done) | (refine L.ret_bool ?_; rw [Bool.eq_iff_iff]; simp [*]; done), by repeat (first | (with_reducible first | exact HB.out | apply below_alloc | apply pw_below_drewN | apply below_drew1 | refine below_set ?_ GE132.out) | exact HB.out)⟩
               ·replace c105 := Bool.eq_false_iff.mpr c105
                subst c105
                have H1 : (some 92) = some r := by rw [if_neg (show ¬ (false = true) by decide)] at H; exact H
                clear H
                have H := H1
                clear H1
                obtain rfl := Option.some.inj H
                go_wp2
                go_ret
                exact ⟨by first | rfl | (simp [errW_none, errW_some] <;> rfl) | (simp [*, errW_none, errW_some] <;> rfl) | (refine L.ret_bool ?_; rw [Bool.eq_iff_iff]; simp; done) | (refine L.ret_bool ?_; rw [Bool.eq_iff_iff]; simp [*]; done), by repeat (first | (with_reducible first | exact HB.out | apply below_alloc | apply pw_below_drewN | apply below_drew1 | refine below_set ?_ GE132.out) | exact HB.out)⟩
              ·rw [if_neg c104] at H
               have c104b0 : (a0_0 == 8) = false := beq_eq_false_iff_ne.mpr c104
               have c104b1 : (a0_0 != 8) = true := bne_iff_ne.mpr c104
               obtain rfl := Option.some.inj H
               go_wp2
               go_ret
               exact ⟨by first | rfl | (simp [errW_none, errW_some] <;> rfl) | (simp [*, errW_none, errW_some] <;> rfl) | (refine L.ret_bool ?_; rw [Bool.eq_iff_iff]; simp; done) | (refine L.ret_bool ?_; rw [Bool.eq_iff_iff]; simp [*]; done), by repeat (first | (with_reducible first | exact HB.out | apply below_alloc | apply pw_below_drewN | apply below_drew1 | refine below_set ?_ GE132.out) | exact HB.out)⟩

end Go.Proofs.Yteoklaofbdfjlaa.PEffectChecks
