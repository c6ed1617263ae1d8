-- Written by a program of this session: the printer, with contracts put in that were proved by hand. Lean checks it.
import Derived.Test.YtbdehbaiihlacaaPUsageDoesx3d
namespace Go.Proofs.Ytbdehbaiihlacaa.PUsageDoes
open Go.RowKit Go.Proofs.YtbdehbaiihlacaaW.PrintWords Go.Proofs.YtbdehbaiihlacaaW.PrintLast Go.Proofs.YtbdehbaiihlacaaW.PrintMore
attribute [local go_sem] L.setCell_drewN max2_int min2_int max_two min_two max_three min_three max_four min_four   -- for this text's walks alone
set_option linter.unusedVariables false
set_option linter.unusedSimpArgs false

set_option maxHeartbeats 8000000 in
set_option maxRecDepth 100000 in
theorem sumplaw42_UsageDoes.calls (k : Nat) (A0 : Option Addr) (c0 : Nat) (l0 : List (S29)) (a1 : ByteArray) (a2 : ByteArray) (A3 : Option Addr) (c3 : Nat) (l3 : List (S31)) (r : Bool) (w : World) (hr0 : Kd.C k29 w A0 l0.length l0) (hc0 : l0.length ≤ c0) (hr3 : Kd.C k31 w A3 l3.length l3) (hc3 : l3.length ≤ c3) (h : sumplaw42_UsageDoes.f k l0 a1 a2 l3 = some r) (ht : r = true) :
  Calls Try.prog 3 #[.slice A0 l0.length c0, .string a1, .string a2, .slice A3 l3.length c3] w fun e w' => e = .returned (.bool r) ∧ Below w.heap.size w w' := by
 have hu29 := Try.underlying29
 have hu31 := Try.underlying31
 have HR0 := Aside0.mk hr0
 have HC0 := Aside0.mk hc0
 clear hr0 hc0
 have HR3 := Aside0.mk hr3
 have HC3 := Aside0.mk hc3
 clear hr3 hc3
 have HB := Aside0.mk (Below.refl w.heap.size w)
 have HT := Aside0.mk ht
 clear ht
 have H : ((sumplaw42_awake.f k).bind fun t128 => (if t128 = true then ((sumplaw23_Few.f k l0).bind fun t129 => (if t129 = true then (if (a1.size : Int) > 200 then (sumplaw42_UsageDoes.j0 k l0 a1 a2 l3 true) else (if (a2.size : Int) > 200 then (sumplaw42_UsageDoes.j0 k l0 a1 a2 l3 true) else (sumplaw42_UsageDoes.j0 k l0 a1 a2 l3 (decide ((l3.length : Int) > 30))))) else (sumplaw42_UsageDoes.j0 k l0 a1 a2 l3 true))) else (some false))) = some r := h
 clear h
 replace H := Option.bind_eq_some_iff.mp H
 obtain ⟨t128, A50, H⟩ := H
 replace H : (if t128 = true then ((sumplaw23_Few.f k l0).bind fun t129 => (if t129 = true then (if (a1.size : Int) > 200 then (sumplaw42_UsageDoes.j0 k l0 a1 a2 l3 true) else (if (a2.size : Int) > 200 then (sumplaw42_UsageDoes.j0 k l0 a1 a2 l3 true) else (sumplaw42_UsageDoes.j0 k l0 a1 a2 l3 (decide ((l3.length : Int) > 30))))) else (sumplaw42_UsageDoes.j0 k l0 a1 a2 l3 true))) else (some false)) = some r := H
 have A5 := Aside0.mk A50
 clear A50
 by_cases c6 : t128 = true
 ·subst c6
  have H1 : ((sumplaw23_Few.f k l0).bind fun t129 => (if t129 = true then (if (a1.size : Int) > 200 then (sumplaw42_UsageDoes.j0 k l0 a1 a2 l3 true) else (if (a2.size : Int) > 200 then (sumplaw42_UsageDoes.j0 k l0 a1 a2 l3 true) else (sumplaw42_UsageDoes.j0 k l0 a1 a2 l3 (decide ((l3.length : Int) > 30))))) else (sumplaw42_UsageDoes.j0 k l0 a1 a2 l3 true))) = some r := by rw [if_pos rfl] at H; exact H
  clear H
  have H := H1
  clear H1
  have HC7 := Aside0.mk H
  clear H
  go_enter Try.func3, Try.ntmps3
  go_upto_region 3 with (first | (go_at_call 8; (with_reducible refine (sumplaw42_awake.calls k  true _ A5.out).mono ?_); rintro e w8 ⟨rfl, hb⟩; have n0_ := Aside0.mk (below_step (by repeat (first | (with_reducible first | exact HB.out | apply below_alloc | apply pw_below_drewN | apply below_drew1) | exact HB.out)) hb); clear HB; have HB := n0_; clear n0_; (try clear hb); (try clear hb2); (try clear hk); (try clear hi)))
  repeat (go_quiet (first | (go_at_call 8; (with_reducible refine (sumplaw42_awake.calls k  true _ A5.out).mono ?_); rintro e w8 ⟨rfl, hb⟩; have n0_ := Aside0.mk (below_step (by repeat (first | (with_reducible first | exact HB.out | apply below_alloc | apply pw_below_drewN | apply below_drew1) | exact HB.out)) hb); clear HB; have HB := n0_; clear n0_; (try clear hb); (try clear hb2); (try clear hk); (try clear hi))); go_upto_region 3 with (first | (go_at_call 8; (with_reducible refine (sumplaw42_awake.calls k  true _ A5.out).mono ?_); rintro e w8 ⟨rfl, hb⟩; have n0_ := Aside0.mk (below_step (by repeat (first | (with_reducible first | exact HB.out | apply below_alloc | apply pw_below_drewN | apply below_drew1) | exact HB.out)) hb); clear HB; have HB := n0_; clear n0_; (try clear hb); (try clear hb2); (try clear hk); (try clear hi))))
  (try simp only [Act.put, List.setIfInBounds_toArray, List.set_cons_zero, List.set_cons_succ])
  go_cut [41] (fun v41 wc => ∃ (kq : Nat) (x41_6 : Bool), v41 = .bool x41_6 ∧ Aside0 (sumplaw42_UsageDoes.j0 kq l0 a1 a2 l3 x41_6 = some r) ∧ Aside0 (kq ≤ k) ∧ Aside0 (Below w.heap.size w wc))
  case first =>
   have H := HC7.out
   clear HC7
   replace H := Option.bind_eq_some_iff.mp H
   obtain ⟨t129, A90, H⟩ := H
   replace H : (if t129 = true then (if (a1.size : Int) > 200 then (sumplaw42_UsageDoes.j0 k l0 a1 a2 l3 true) else (if (a2.size : Int) > 200 then (sumplaw42_UsageDoes.j0 k l0 a1 a2 l3 true) else (sumplaw42_UsageDoes.j0 k l0 a1 a2 l3 (decide ((l3.length : Int) > 30))))) else (sumplaw42_UsageDoes.j0 k l0 a1 a2 l3 true)) = some r := H
   have A9 := Aside0.mk A90
   clear A90
   by_cases c10 : t129 = true
   ·subst c10
    have H1 : (if (a1.size : Int) > 200 then (sumplaw42_UsageDoes.j0 k l0 a1 a2 l3 true) else (if (a2.size : Int) > 200 then (sumplaw42_UsageDoes.j0 k l0 a1 a2 l3 true) else (sumplaw42_UsageDoes.j0 k l0 a1 a2 l3 (decide ((l3.length : Int) > 30))))) = some r := by rw [if_pos rfl] at H; exact H
    clear H
    have H := H1
    clear H1
    by_cases c11 : (a1.size : Int) > 200
    ·rw [if_pos c11] at H
     have c11b0 : decide (200 < (a1.size : Int)) = true := decide_eq_true c11
     have c11b1 : decide (200 < a1.size) = true := decide_eq_true (by omega)
     have c11le : Aside0 (200 + 1 ≤ (a1.size : Int)) := ⟨by omega⟩
     clear c11
     (first | rw [c11b0] | (simp only [i64_w, i32_w]; rw [c11b0]) | skip)
     have H' := Aside0.mk H
     clear H
     go_wp2_with (first | (go_at_call 9; (with_reducible refine (sumplaw23_Few.calls k _ _ l0 true _ ?side1 ?side2 A9.out).mono ?_); (case side1 => repeat (first | exact (Kd.C_below HR0.out HB.out) | (with_reducible refine Kd.C_alloc ?_ _) | (with_reducible refine Kd.C_drewN ?_ _) | (with_reducible refine Kd.C_drew ?_))); (case side2 => exact HC0.out); rintro e w12 ⟨rfl, hb⟩; have n0_ := Aside0.mk (below_step (by repeat (first | (with_reducible first | exact HB.out | apply below_alloc | apply pw_below_drewN | apply below_drew1) | exact HB.out)) hb); clear HB; have HB := n0_; clear n0_; (try clear hb); (try clear hb2); (try clear hk); (try clear hi)))
     repeat (go_quiet (first | (go_at_call 9; (with_reducible refine (sumplaw23_Few.calls k _ _ l0 true _ ?side1 ?side2 A9.out).mono ?_); (case side1 => repeat (first | exact (Kd.C_below HR0.out HB.out) | (with_reducible refine Kd.C_alloc ?_ _) | (with_reducible refine Kd.C_drewN ?_ _) | (with_reducible refine Kd.C_drew ?_))); (case side2 => exact HC0.out); rintro e w12 ⟨rfl, hb⟩; have n0_ := Aside0.mk (below_step (by repeat (first | (with_reducible first | exact HB.out | apply below_alloc | apply pw_below_drewN | apply below_drew1) | exact HB.out)) hb); clear HB; have HB := n0_; clear n0_; (try clear hb); (try clear hb2); (try clear hk); (try clear hi))); try go_wp2_with (first | (go_at_call 9; (with_reducible refine (sumplaw23_Few.calls k _ _ l0 true _ ?side1 ?side2 A9.out).mono ?_); (case side1 => repeat (first | exact (Kd.C_below HR0.out HB.out) | (with_reducible refine Kd.C_alloc ?_ _) | (with_reducible refine Kd.C_drewN ?_ _) | (with_reducible refine Kd.C_drew ?_))); (case side2 => exact HC0.out); rintro e w12 ⟨rfl, hb⟩; have n0_ := Aside0.mk (below_step (by repeat (first | (with_reducible first | exact HB.out | apply below_alloc | apply pw_below_drewN | apply below_drew1) | exact HB.out)) hb); clear HB; have HB := n0_; clear n0_; (try clear hb); (try clear hb2); (try clear hk); (try clear hi))))
     go_meet
     case rel => exact ⟨_, (true), (by first | rfl | (simp; done) | (simp [*]; done)), H', ⟨by first | omega | exact Nat.le_refl _⟩, ⟨by repeat (first | (with_reducible first | exact HB.out | apply below_alloc | apply pw_below_drewN | apply below_drew1) | exact HB.out)⟩⟩
    ·rw [if_neg c11] at H
     have c11b0 : decide (200 < (a1.size : Int)) = false := decide_eq_false c11
     have c11b1 : decide (200 < a1.size) = false := decide_eq_false (by omega)
     have c11le : Aside0 ((a1.size : Int) ≤ 200) := ⟨by omega⟩
     clear c11
     (first | rw [c11b0] | (simp only [i64_w, i32_w]; rw [c11b0]) | skip)
     by_cases c13 : (a2.size : Int) > 200
     ·rw [if_pos c13] at H
      have c13b0 : decide (200 < (a2.size : Int)) = true := decide_eq_true c13
      have c13b1 : decide (200 < a2.size) = true := decide_eq_true (by omega)
      have c13le : Aside0 (200 + 1 ≤ (a2.size : Int)) := ⟨by omega⟩
      clear c13
      have H' := Aside0.mk H
      clear H
      go_wp2_with (first | (go_at_call 9; (with_reducible refine (sumplaw23_Few.calls k _ _ l0 true _ ?side1 ?side2 A9.out).mono ?_); (case side1 => repeat (first | exact (Kd.C_below HR0.out HB.out) | (with_reducible refine Kd.C_alloc ?_ _) | (with_reducible refine Kd.C_drewN ?_ _) | (with_reducible refine Kd.C_drew ?_))); (case side2 => exact HC0.out); rintro e w14 ⟨rfl, hb⟩; have n0_ := Aside0.mk (below_step (by repeat (first | (with_reducible first | exact HB.out | apply below_alloc | apply pw_below_drewN | apply below_drew1) | exact HB.out)) hb); clear HB; have HB := n0_; clear n0_; (try clear hb); (try clear hb2); (try clear hk); (try clear hi)))
      repeat (go_quiet (first | (go_at_call 9; (with_reducible refine (sumplaw23_Few.calls k _ _ l0 true _ ?side1 ?side2 A9.out).mono ?_); (case side1 => repeat (first | exact (Kd.C_below HR0.out HB.out) | (with_reducible refine Kd.C_alloc ?_ _) | (with_reducible refine Kd.C_drewN ?_ _) | (with_reducible refine Kd.C_drew ?_))); (case side2 => exact HC0.out); rintro e w14 ⟨rfl, hb⟩; have n0_ := Aside0.mk (below_step (by repeat (first | (with_reducible first | exact HB.out | apply below_alloc | apply pw_below_drewN | apply below_drew1) | exact HB.out)) hb); clear HB; have HB := n0_; clear n0_; (try clear hb); (try clear hb2); (try clear hk); (try clear hi))); try go_wp2_with (first | (go_at_call 9; (with_reducible refine (sumplaw23_Few.calls k _ _ l0 true _ ?side1 ?side2 A9.out).mono ?_); (case side1 => repeat (first | exact (Kd.C_below HR0.out HB.out) | (with_reducible refine Kd.C_alloc ?_ _) | (with_reducible refine Kd.C_drewN ?_ _) | (with_reducible refine Kd.C_drew ?_))); (case side2 => exact HC0.out); rintro e w14 ⟨rfl, hb⟩; have n0_ := Aside0.mk (below_step (by repeat (first | (with_reducible first | exact HB.out | apply below_alloc | apply pw_below_drewN | apply below_drew1) | exact HB.out)) hb); clear HB; have HB := n0_; clear n0_; (try clear hb); (try clear hb2); (try clear hk); (try clear hi))))
      go_meet
      case rel => exact ⟨_, (true), (by first | rfl | (simp; done) | (simp [*]; done)), H', ⟨by first | omega | exact Nat.le_refl _⟩, ⟨by repeat (first | (with_reducible first | exact HB.out | apply below_alloc | apply pw_below_drewN | apply below_drew1) | exact HB.out)⟩⟩
     ·rw [if_neg c13] at H
      have c13b0 : decide (200 < (a2.size : Int)) = false := decide_eq_false c13
      have c13b1 : decide (200 < a2.size) = false := decide_eq_false (by omega)
      have c13le : Aside0 ((a2.size : Int) ≤ 200) := ⟨by omega⟩
      clear c13
      have H' := Aside0.mk H
      clear H
      go_wp2_with (first | (go_at_call 9; (with_reducible refine (sumplaw23_Few.calls k _ _ l0 true _ ?side1 ?side2 A9.out).mono ?_); (case side1 => repeat (first | exact (Kd.C_below HR0.out HB.out) | (with_reducible refine Kd.C_alloc ?_ _) | (with_reducible refine Kd.C_drewN ?_ _) | (with_reducible refine Kd.C_drew ?_))); (case side2 => exact HC0.out); rintro e w15 ⟨rfl, hb⟩; have n0_ := Aside0.mk (below_step (by repeat (first | (with_reducible first | exact HB.out | apply below_alloc | apply pw_below_drewN | apply below_drew1) | exact HB.out)) hb); clear HB; have HB := n0_; clear n0_; (try clear hb); (try clear hb2); (try clear hk); (try clear hi)))
      repeat (go_quiet (first | (go_at_call 9; (with_reducible refine (sumplaw23_Few.calls k _ _ l0 true _ ?side1 ?side2 A9.out).mono ?_); (case side1 => repeat (first | exact (Kd.C_below HR0.out HB.out) | (with_reducible refine Kd.C_alloc ?_ _) | (with_reducible refine Kd.C_drewN ?_ _) | (with_reducible refine Kd.C_drew ?_))); (case side2 => exact HC0.out); rintro e w15 ⟨rfl, hb⟩; have n0_ := Aside0.mk (below_step (by repeat (first | (with_reducible first | exact HB.out | apply below_alloc | apply pw_below_drewN | apply below_drew1) | exact HB.out)) hb); clear HB; have HB := n0_; clear n0_; (try clear hb); (try clear hb2); (try clear hk); (try clear hi))); try go_wp2_with (first | (go_at_call 9; (with_reducible refine (sumplaw23_Few.calls k _ _ l0 true _ ?side1 ?side2 A9.out).mono ?_); (case side1 => repeat (first | exact (Kd.C_below HR0.out HB.out) | (with_reducible refine Kd.C_alloc ?_ _) | (with_reducible refine Kd.C_drewN ?_ _) | (with_reducible refine Kd.C_drew ?_))); (case side2 => exact HC0.out); rintro e w15 ⟨rfl, hb⟩; have n0_ := Aside0.mk (below_step (by repeat (first | (with_reducible first | exact HB.out | apply below_alloc | apply pw_below_drewN | apply below_drew1) | exact HB.out)) hb); clear HB; have HB := n0_; clear n0_; (try clear hb); (try clear hb2); (try clear hk); (try clear hi))))
      go_meet
      case rel => exact ⟨_, (decide ((l3.length : Int) > 30)), (by first | rfl | (simp; done) | (simp [*]; done)), H', ⟨by first | omega | exact Nat.le_refl _⟩, ⟨by repeat (first | (with_reducible first | exact HB.out | apply below_alloc | apply pw_below_drewN | apply below_drew1) | exact HB.out)⟩⟩
   ·replace c10 := Bool.eq_false_iff.mpr c10
    subst c10
    have H1 : (sumplaw42_UsageDoes.j0 k l0 a1 a2 l3 true) = some r := by rw [if_neg (show ¬ (false = true) by decide)] at H; exact H
    clear H
    have H := H1
    clear H1
    have H' := Aside0.mk H
    clear H
    go_wp2_with (first | (go_at_call 9; (with_reducible refine (sumplaw23_Few.calls k _ _ l0 false _ ?side1 ?side2 A9.out).mono ?_); (case side1 => repeat (first | exact (Kd.C_below HR0.out HB.out) | (with_reducible refine Kd.C_alloc ?_ _) | (with_reducible refine Kd.C_drewN ?_ _) | (with_reducible refine Kd.C_drew ?_))); (case side2 => exact HC0.out); rintro e w16 ⟨rfl, hb⟩; have n0_ := Aside0.mk (below_step (by repeat (first | (with_reducible first | exact HB.out | apply below_alloc | apply pw_below_drewN | apply below_drew1) | exact HB.out)) hb); clear HB; have HB := n0_; clear n0_; (try clear hb); (try clear hb2); (try clear hk); (try clear hi)))
    repeat (go_quiet (first | (go_at_call 9; (with_reducible refine (sumplaw23_Few.calls k _ _ l0 false _ ?side1 ?side2 A9.out).mono ?_); (case side1 => repeat (first | exact (Kd.C_below HR0.out HB.out) | (with_reducible refine Kd.C_alloc ?_ _) | (with_reducible refine Kd.C_drewN ?_ _) | (with_reducible refine Kd.C_drew ?_))); (case side2 => exact HC0.out); rintro e w16 ⟨rfl, hb⟩; have n0_ := Aside0.mk (below_step (by repeat (first | (with_reducible first | exact HB.out | apply below_alloc | apply pw_below_drewN | apply below_drew1) | exact HB.out)) hb); clear HB; have HB := n0_; clear n0_; (try clear hb); (try clear hb2); (try clear hk); (try clear hi))); try go_wp2_with (first | (go_at_call 9; (with_reducible refine (sumplaw23_Few.calls k _ _ l0 false _ ?side1 ?side2 A9.out).mono ?_); (case side1 => repeat (first | exact (Kd.C_below HR0.out HB.out) | (with_reducible refine Kd.C_alloc ?_ _) | (with_reducible refine Kd.C_drewN ?_ _) | (with_reducible refine Kd.C_drew ?_))); (case side2 => exact HC0.out); rintro e w16 ⟨rfl, hb⟩; have n0_ := Aside0.mk (below_step (by repeat (first | (with_reducible first | exact HB.out | apply below_alloc | apply pw_below_drewN | apply below_drew1) | exact HB.out)) hb); clear HB; have HB := n0_; clear n0_; (try clear hb); (try clear hb2); (try clear hk); (try clear hi))))
    go_meet
    case rel => exact ⟨_, (true), (by first | rfl | (simp; done) | (simp [*]; done)), H', ⟨by first | omega | exact Nat.le_refl _⟩, ⟨by repeat (first | (with_reducible first | exact HB.out | apply below_alloc | apply pw_below_drewN | apply below_drew1) | exact HB.out)⟩⟩
  case rest =>
   clear HC7
   try clear c1
   try clear p2
   try clear c3
   try clear c6
   try clear c10
   try clear c11
   try clear c11b0
   try clear c11b1
   try clear c13
   try clear c13b0
   try clear c13b1
   obtain ⟨kq, x41_6, rfl, HA, HJ6, HB⟩ := hcut
   cases kq with
   | zero => exact absurd HA.out (by simp [sumplaw42_UsageDoes.j0])
   | succ kj6 =>
    have H := HA.out
    clear HA
    simp only [sumplaw42_UsageDoes.j0] at H
    by_cases c17 : x41_6 = true
    ·subst c17
     have H1 : (some true) = some r := by rw [if_pos rfl] at H; exact H
     clear H
     have H := H1
     clear H1
     obtain rfl := Option.some.inj H
     go_wp2
     repeat (go_quiet (fail); try go_wp2)
     go_ret
     exact ⟨by first | rfl | (simp [errW_none, errW_some] <;> rfl) | (simp [*, errW_none, errW_some] <;> rfl) | (refine L.ret_bool ?_; rw [Bool.eq_iff_iff]; simp; done) | (refine L.ret_bool ?_; rw [Bool.eq_iff_iff]; simp [*]; done), by repeat (first | (with_reducible first | exact HB.out | apply below_alloc | apply pw_below_drewN | apply below_drew1) | exact HB.out)⟩
    ·replace c17 := Bool.eq_false_iff.mpr c17
     subst c17
     have H1 : ((usage_Of.f kj6 l0).bind fun t130 => (sumplaw42_UsageDoes.l0 kj6 l0 a1 a2 l3 t130 0 l0 (l0.length : Int) 0)) = some r := by rw [if_neg (show ¬ (false = true) by decide)] at H; exact H
     clear H
     have H := H1
     clear H1
     replace H := Option.bind_eq_some_iff.mp H
     obtain ⟨t130, A180, H⟩ := H
     replace H : (sumplaw42_UsageDoes.l0 kj6 l0 a1 a2 l3 t130 0 l0 (l0.length : Int) 0) = some r := H
     have A18 := Aside0.mk A180
     clear A180
     have H' := Aside0.mk H
     clear H
     go_wp2_with (first | (go_at_call 10; (with_reducible refine (usage_Of.calls kj6 _ _ l0 t130 _ ?side1 ?side2 A18.out).mono ?_); (case side1 => repeat (first | exact (Kd.C_below HR0.out HB.out) | (with_reducible refine Kd.C_alloc ?_ _) | (with_reducible refine Kd.C_drewN ?_ _) | (with_reducible refine Kd.C_drew ?_))); (case side2 => exact HC0.out); rintro e w19 ⟨v131, rfl, ho0, hb⟩; have n0_ := Aside0.mk (Kd.R_lower ho0 (below_size (by repeat (first | (with_reducible first | exact HB.out | apply below_alloc | apply pw_below_drewN | apply below_drew1) | exact HB.out)))); have n1_ := Aside0.mk (below_step (by repeat (first | (with_reducible first | exact HB.out | apply below_alloc | apply pw_below_drewN | apply below_drew1) | exact HB.out)) hb); clear HB; have HO132 := n0_; have HB := n1_; clear n0_ n1_; (try clear hb); (try clear hb2); (try clear hk); (try clear hi); (try clear ho0)))
     repeat (go_quiet (first | (go_at_call 10; (with_reducible refine (usage_Of.calls kj6 _ _ l0 t130 _ ?side1 ?side2 A18.out).mono ?_); (case side1 => repeat (first | exact (Kd.C_below HR0.out HB.out) | (with_reducible refine Kd.C_alloc ?_ _) | (with_reducible refine Kd.C_drewN ?_ _) | (with_reducible refine Kd.C_drew ?_))); (case side2 => exact HC0.out); rintro e w19 ⟨v131, rfl, ho0, hb⟩; have n0_ := Aside0.mk (Kd.R_lower ho0 (below_size (by repeat (first | (with_reducible first | exact HB.out | apply below_alloc | apply pw_below_drewN | apply below_drew1) | exact HB.out)))); have n1_ := Aside0.mk (below_step (by repeat (first | (with_reducible first | exact HB.out | apply below_alloc | apply pw_below_drewN | apply below_drew1) | exact HB.out)) hb); clear HB; have HO132 := n0_; have HB := n1_; clear n0_ n1_; (try clear hb); (try clear hb2); (try clear hk); (try clear hi); (try clear ho0))); try go_wp2_with (first | (go_at_call 10; (with_reducible refine (usage_Of.calls kj6 _ _ l0 t130 _ ?side1 ?side2 A18.out).mono ?_); (case side1 => repeat (first | exact (Kd.C_below HR0.out HB.out) | (with_reducible refine Kd.C_alloc ?_ _) | (with_reducible refine Kd.C_drewN ?_ _) | (with_reducible refine Kd.C_drew ?_))); (case side2 => exact HC0.out); rintro e w19 ⟨v131, rfl, ho0, hb⟩; have n0_ := Aside0.mk (Kd.R_lower ho0 (below_size (by repeat (first | (with_reducible first | exact HB.out | apply below_alloc | apply pw_below_drewN | apply below_drew1) | exact HB.out)))); have n1_ := Aside0.mk (below_step (by repeat (first | (with_reducible first | exact HB.out | apply below_alloc | apply pw_below_drewN | apply below_drew1) | exact HB.out)) hb); clear HB; have HO132 := n0_; have HB := n1_; clear n0_ n1_; (try clear hb); (try clear hb2); (try clear hk); (try clear hi); (try clear ho0))))
     go_loopg [10, 46] kj6 (fun kq v10 v46 w' => ∃ (x10_2 : Int) (x46_2 : Int), v10 = .int .i64 x10_2 ∧ v46 = .int .i64 x46_2 ∧ Aside0 (sumplaw42_UsageDoes.l0 kq l0 a1 a2 l3 t130 x10_2 l0 (l0.length : Int) x46_2 = some r) ∧ Aside0 (kq ≤ kj6) ∧ Aside0 (Kd.R k31 31 w' w.heap.size (fun _ => True) v131 t130) ∧ Aside0 (Below w.heap.size w w'))
     case atStart => exact ⟨(0), (0), (by first | rfl | (simp; done) | (simp [*]; done)), (by first | rfl | (simp; done) | (simp [*]; done)), H', ⟨Nat.le_refl _⟩, ⟨by (with_reducible repeat (first | apply Kd.R_alloc | apply Kd.R_drewN | apply Kd.R_drew)); exact HO132.out⟩, ⟨by repeat (first | (with_reducible first | exact HB.out | apply below_alloc | apply pw_below_drewN | apply below_drew1) | exact HB.out)⟩⟩
     case round =>
      clear H'
      try clear c1
      try clear p2
      try clear c3
      try clear c6
      try clear c10
      try clear c11
      try clear c11b0
      try clear c11b1
      try clear c13
      try clear c13b0
      try clear c13b1
      try clear c17
      try clear p2
      obtain ⟨x10_2, x46_2, rfl, rfl, HA, HK2, HO_9, HB⟩ := hrel
      cases gk with
      | zero => exact absurd HA.out (by simp [sumplaw42_UsageDoes.l0])
      | succ k2 =>
       have H := HA.out
       clear HA
       simp only [sumplaw42_UsageDoes.l0] at H
       by_cases c20 : x46_2 < (l0.length : Int)
       ·rw [if_pos c20] at H
        have c20b0 : decide (x46_2 < (l0.length : Int)) = true := decide_eq_true c20
        clear c20
        by_cases c21 : 0 ≤ x46_2
        ·rw [if_pos c21] at H
         have c21b0 : decide (0 ≤ x46_2) = true := decide_eq_true c21
         clear c21
         by_cases c22 : x46_2 < (l0.length : Int)
         ·rw [if_pos c22] at H
          have c22b0 : decide (x46_2 < (l0.length : Int)) = true := decide_eq_true c22
          clear c22
          by_cases c23 : ((rd_T29 l0 x46_2).f2) = 2
          ·rw [if_pos c23] at H
           have c23b0 : (((rd_T29 l0 x46_2).f2) == 2) = true := beq_iff_eq.mpr c23
           have c23b1 : (((rd_T29 l0 x46_2).f2) != 2) = false := bne_eq_false_iff_eq.mpr c23
           clear c23
           have H' := Aside0.mk H
           clear H
           have p133 : 0 ≤ (x46_2 : Int) := of_decide_eq_true (by first | (with_reducible assumption) | assumption)
           have q133 : x46_2 < (l0.length : Int) := of_decide_eq_true (by first | (with_reducible assumption) | assumption)
           obtain ⟨ad133, A133_4, c133_4, e133, hx133_0, hx133_1, hx133_2, hx133_3, hx133_4, hl133_4, hi133_4⟩ := at_T29 HR0.out x46_2 p133 q133
           cases e133
           replace hx133_0 := (HB.out.cell (World.block_lt_of_cell? w _ hx133_0)).trans hx133_0
           replace hx133_1 := (HB.out.cell (World.block_lt_of_cell? w _ hx133_1)).trans hx133_1
           replace hx133_2 := (HB.out.cell (World.block_lt_of_cell? w _ hx133_2)).trans hx133_2
           replace hx133_3 := (HB.out.cell (World.block_lt_of_cell? w _ hx133_3)).trans hx133_3
           replace hx133_4 := (HB.out.cell (World.block_lt_of_cell? w _ hx133_4)).trans hx133_4
           have HR133_4 := Aside0.mk hi133_4
           have HC133_4 := Aside0.mk hl133_4
           clear hi133_4 hl133_4
           replace p133 := eq_true p133
           replace q133 := eq_true q133
           go_wp2_with (first | ((with_reducible refine gate_dst (N := 12) rfl ?_); (try (refine gate_guard (by rfl) ?_; dsimp only)); refine box_event ?hg (N := 12) ?hd (cs := #[.string (⟨#[]⟩ : ByteArray), .int .i64 0, .int .i64 0, .int .i64 0, .slice none 0 0]) (t := 29) ?hr ?_; (case hd => rfl); (case hg => rfl); (case hr => first | (go_simp; done) | (go_simp; rfl)); intro gb134 hg w24 hbox hb; have n0_ := Aside0.mk (Kd.R_below (by (with_reducible repeat (first | apply Kd.R_alloc | apply Kd.R_drewN | apply Kd.R_drew)); exact HO_9.out) hb); have n1_ := Aside0.mk (below_step (by repeat (first | (with_reducible first | exact HB.out | apply below_alloc | apply pw_below_drewN | apply below_drew1) | exact HB.out)) hb); have n2_ := Aside0.mk (hbox); have n3_ := Aside0.mk ((by rw [hg]; exact (below_size (by repeat (first | (with_reducible first | exact HB.out | apply below_alloc | apply pw_below_drewN | apply below_drew1) | exact HB.out))) : w.heap.size ≤ gb134)); have n4_ := Aside0.mk ((by rw [hg]; exact (below_size (by repeat (first | (with_reducible first | exact HB.out | apply below_alloc | apply pw_below_drewN | apply below_drew1) | exact HB.out))) : w.heap.size ≤ gb134)); clear HO_9; clear HB; have HO_9 := n0_; have HB := n1_; have BK134 := n2_; have GW134 := n3_; have GE134 := n4_; clear n0_ n1_ n2_ n3_ n4_; clear hb hbox hg; have hcz25_0 : w24.cell? ⟨gb134, 0, none⟩ = some (.string (⟨#[]⟩ : ByteArray)) := (blk_cell BK134.out 0).trans rfl; have hcz25_1 : w24.cell? ⟨gb134, 1, none⟩ = some (.int .i64 0) := (blk_cell BK134.out 1).trans rfl; have hcz25_2 : w24.cell? ⟨gb134, 2, none⟩ = some (.int .i64 0) := (blk_cell BK134.out 2).trans rfl; have hcz25_3 : w24.cell? ⟨gb134, 3, none⟩ = some (.int .i64 0) := (blk_cell BK134.out 3).trans rfl; have hcz25_4 : w24.cell? ⟨gb134, 4, none⟩ = some (.slice none 0 0) := (blk_cell BK134.out 4).trans rfl; have hfz25_0 := blk_frozen BK134.out 0; have hfz25_1 := blk_frozen BK134.out 1; have hfz25_2 := blk_frozen BK134.out 2; have hfz25_3 := blk_frozen BK134.out 3; have hfz25_4 := blk_frozen BK134.out 4) | ((with_reducible refine gate_dst (N := 13) rfl ?_); (try (refine gate_guard (by rfl) ?_; dsimp only)); refine box_event ?hg (N := 13) ?hd (cs := #[.string (⟨#[]⟩ : ByteArray), .int .i64 0, .int .i64 0, .int .i64 0]) (t := 31) ?hr ?_; (case hd => rfl); (case hg => rfl); (case hr => first | (go_simp; done) | (go_simp; rfl)); intro gb135 hg w26 hbox hb; have n0_ := Aside0.mk (Kd.R_below (Kd.R_elderB (by (with_reducible repeat (first | apply Kd.R_alloc | apply Kd.R_drewN | apply Kd.R_drew)); exact (Kd.R_mono (Kd.R_far (p := ⟨gb134, 4, none⟩) (Kd.R_far (p := ⟨gb134, 3, none⟩) (Kd.R_far (p := ⟨gb134, 2, none⟩) (Kd.R_far (p := ⟨gb134, 1, none⟩) (Kd.R_far (p := ⟨gb134, 0, none⟩) (Kd.R_types HO_9.out BK134.out (by decide)) (fun _ hk => hk.2) (.string ((rd_T29 l0 x46_2).f0))) (fun _ hk => hk.2) (.int .i64 ((rd_T29 l0 x46_2).f1))) (fun _ hk => hk.2) (.int .i64 ((rd_T29 l0 x46_2).f2))) (fun _ hk => hk.2) (.int .i64 ((rd_T29 l0 x46_2).f3))) (fun _ hk => hk.2) (.slice A133_4 ((rd_T29 l0 x46_2).f4).length c133_4)) (fun _ h_ => h_.1))) gb135 (Nat.le_of_eq hg.symm)) hb); have n1_ := Aside0.mk (blk_below (g := gb134) (o := .cells #[.string ((rd_T29 l0 x46_2).f0), .int .i64 ((rd_T29 l0 x46_2).f1), .int .i64 ((rd_T29 l0 x46_2).f2), .int .i64 ((rd_T29 l0 x46_2).f3), .slice A133_4 ((rd_T29 l0 x46_2).f4).length c133_4] 29 (0, 0)) (by (with_reducible repeat (first | refine blk_drewN ?_ _ | refine blk_drew ?_ | refine blk_alloc ?_ _)); refine blk_put (cs := #[.string ((rd_T29 l0 x46_2).f0), .int .i64 ((rd_T29 l0 x46_2).f1), .int .i64 ((rd_T29 l0 x46_2).f2), .int .i64 ((rd_T29 l0 x46_2).f3), .slice none 0 0]) ?_ 4 _ rfl; (with_reducible repeat (first | refine blk_drewN ?_ _ | refine blk_drew ?_ | refine blk_alloc ?_ _)); refine blk_put (cs := #[.string ((rd_T29 l0 x46_2).f0), .int .i64 ((rd_T29 l0 x46_2).f1), .int .i64 ((rd_T29 l0 x46_2).f2), .int .i64 0, .slice none 0 0]) ?_ 3 _ rfl; (with_reducible repeat (first | refine blk_drewN ?_ _ | refine blk_drew ?_ | refine blk_alloc ?_ _)); refine blk_put (cs := #[.string ((rd_T29 l0 x46_2).f0), .int .i64 ((rd_T29 l0 x46_2).f1), .int .i64 0, .int .i64 0, .slice none 0 0]) ?_ 2 _ rfl; (with_reducible repeat (first | refine blk_drewN ?_ _ | refine blk_drew ?_ | refine blk_alloc ?_ _)); refine blk_put (cs := #[.string ((rd_T29 l0 x46_2).f0), .int .i64 0, .int .i64 0, .int .i64 0, .slice none 0 0]) ?_ 1 _ rfl; (with_reducible repeat (first | refine blk_drewN ?_ _ | refine blk_drew ?_ | refine blk_alloc ?_ _)); refine blk_put (cs := #[.string (⟨#[]⟩ : ByteArray), .int .i64 0, .int .i64 0, .int .i64 0, .slice none 0 0]) ?_ 0 _ rfl; (with_reducible repeat (first | refine blk_drewN ?_ _ | refine blk_drew ?_ | refine blk_alloc ?_ _)); exact BK134.out) hb); have n2_ := Aside0.mk (below_step (by repeat (first | (with_reducible first | exact HB.out | apply below_alloc | apply pw_below_drewN | apply below_drew1 | refine below_set ?_ GE134.out) | exact HB.out)) hb); have n3_ := Aside0.mk (hbox); have n4_ := Aside0.mk ((by rw [hg]; exact (below_size (by repeat (first | (with_reducible first | exact HB.out | apply below_alloc | apply pw_below_drewN | apply below_drew1 | refine below_set ?_ GE134.out) | exact HB.out))) : w.heap.size ≤ gb135)); have n5_ := Aside0.mk ((by rw [hg]; exact (below_size (by repeat (first | (with_reducible first | exact HB.out | apply below_alloc | apply pw_below_drewN | apply below_drew1 | refine below_set ?_ GE134.out) | exact HB.out))) : w.heap.size ≤ gb135)); have n6_ := Aside0.mk ((by rw [hg]; exact Nat.ne_of_lt (blk_lt (g := gb134) (o := .cells #[.string ((rd_T29 l0 x46_2).f0), .int .i64 ((rd_T29 l0 x46_2).f1), .int .i64 ((rd_T29 l0 x46_2).f2), .int .i64 ((rd_T29 l0 x46_2).f3), .slice A133_4 ((rd_T29 l0 x46_2).f4).length c133_4] 29 (0, 0)) (by (with_reducible repeat (first | refine blk_drewN ?_ _ | refine blk_drew ?_ | refine blk_alloc ?_ _)); refine blk_put (cs := #[.string ((rd_T29 l0 x46_2).f0), .int .i64 ((rd_T29 l0 x46_2).f1), .int .i64 ((rd_T29 l0 x46_2).f2), .int .i64 ((rd_T29 l0 x46_2).f3), .slice none 0 0]) ?_ 4 _ rfl; (with_reducible repeat (first | refine blk_drewN ?_ _ | refine blk_drew ?_ | refine blk_alloc ?_ _)); refine blk_put (cs := #[.string ((rd_T29 l0 x46_2).f0), .int .i64 ((rd_T29 l0 x46_2).f1), .int .i64 ((rd_T29 l0 x46_2).f2), .int .i64 0, .slice none 0 0]) ?_ 3 _ rfl; (with_reducible repeat (first | refine blk_drewN ?_ _ | refine blk_drew ?_ | refine blk_alloc ?_ _)); refine blk_put (cs := #[.string ((rd_T29 l0 x46_2).f0), .int .i64 ((rd_T29 l0 x46_2).f1), .int .i64 0, .int .i64 0, .slice none 0 0]) ?_ 2 _ rfl; (with_reducible repeat (first | refine blk_drewN ?_ _ | refine blk_drew ?_ | refine blk_alloc ?_ _)); refine blk_put (cs := #[.string ((rd_T29 l0 x46_2).f0), .int .i64 0, .int .i64 0, .int .i64 0, .slice none 0 0]) ?_ 1 _ rfl; (with_reducible repeat (first | refine blk_drewN ?_ _ | refine blk_drew ?_ | refine blk_alloc ?_ _)); refine blk_put (cs := #[.string (⟨#[]⟩ : ByteArray), .int .i64 0, .int .i64 0, .int .i64 0, .slice none 0 0]) ?_ 0 _ rfl; (with_reducible repeat (first | refine blk_drewN ?_ _ | refine blk_drew ?_ | refine blk_alloc ?_ _)); exact BK134.out)) : gb134 ≠ gb135)); have n7_ := Aside0.mk ((by rw [hg]; exact Nat.ne_of_gt (blk_lt (g := gb134) (o := .cells #[.string ((rd_T29 l0 x46_2).f0), .int .i64 ((rd_T29 l0 x46_2).f1), .int .i64 ((rd_T29 l0 x46_2).f2), .int .i64 ((rd_T29 l0 x46_2).f3), .slice A133_4 ((rd_T29 l0 x46_2).f4).length c133_4] 29 (0, 0)) (by (with_reducible repeat (first | refine blk_drewN ?_ _ | refine blk_drew ?_ | refine blk_alloc ?_ _)); refine blk_put (cs := #[.string ((rd_T29 l0 x46_2).f0), .int .i64 ((rd_T29 l0 x46_2).f1), .int .i64 ((rd_T29 l0 x46_2).f2), .int .i64 ((rd_T29 l0 x46_2).f3), .slice none 0 0]) ?_ 4 _ rfl; (with_reducible repeat (first | refine blk_drewN ?_ _ | refine blk_drew ?_ | refine blk_alloc ?_ _)); refine blk_put (cs := #[.string ((rd_T29 l0 x46_2).f0), .int .i64 ((rd_T29 l0 x46_2).f1), .int .i64 ((rd_T29 l0 x46_2).f2), .int .i64 0, .slice none 0 0]) ?_ 3 _ rfl; (with_reducible repeat (first | refine blk_drewN ?_ _ | refine blk_drew ?_ | refine blk_alloc ?_ _)); refine blk_put (cs := #[.string ((rd_T29 l0 x46_2).f0), .int .i64 ((rd_T29 l0 x46_2).f1), .int .i64 0, .int .i64 0, .slice none 0 0]) ?_ 2 _ rfl; (with_reducible repeat (first | refine blk_drewN ?_ _ | refine blk_drew ?_ | refine blk_alloc ?_ _)); refine blk_put (cs := #[.string ((rd_T29 l0 x46_2).f0), .int .i64 0, .int .i64 0, .int .i64 0, .slice none 0 0]) ?_ 1 _ rfl; (with_reducible repeat (first | refine blk_drewN ?_ _ | refine blk_drew ?_ | refine blk_alloc ?_ _)); refine blk_put (cs := #[.string (⟨#[]⟩ : ByteArray), .int .i64 0, .int .i64 0, .int .i64 0, .slice none 0 0]) ?_ 0 _ rfl; (with_reducible repeat (first | refine blk_drewN ?_ _ | refine blk_drew ?_ | refine blk_alloc ?_ _)); exact BK134.out)) : gb135 ≠ gb134)); clear HO_9; clear BK134; clear HB; have HO_9 := n0_; have BK134 := n1_; have HB := n2_; have BK135 := n3_; have GW135 := n4_; have GE135 := n5_; have NB134_135 := n6_; have NB135_134 := n7_; clear n0_ n1_ n2_ n3_ n4_ n5_ n6_ n7_; clear hb hbox hg; have hnb27 := NB135_134.out; have hnc27 := NB134_135.out; have hcz28_0 : w26.cell? ⟨gb135, 0, none⟩ = some (.string (⟨#[]⟩ : ByteArray)) := (blk_cell BK135.out 0).trans rfl; have hcz28_1 : w26.cell? ⟨gb135, 1, none⟩ = some (.int .i64 0) := (blk_cell BK135.out 1).trans rfl; have hcz28_2 : w26.cell? ⟨gb135, 2, none⟩ = some (.int .i64 0) := (blk_cell BK135.out 2).trans rfl; have hcz28_3 : w26.cell? ⟨gb135, 3, none⟩ = some (.int .i64 0) := (blk_cell BK135.out 3).trans rfl; have hfz28_0 := blk_frozen BK135.out 0; have hfz28_1 := blk_frozen BK135.out 1; have hfz28_2 := blk_frozen BK135.out 2; have hfz28_3 := blk_frozen BK135.out 3))
           repeat (go_quiet (first | ((with_reducible refine gate_dst (N := 12) rfl ?_); (try (refine gate_guard (by rfl) ?_; dsimp only)); refine box_event ?hg (N := 12) ?hd (cs := #[.string (⟨#[]⟩ : ByteArray), .int .i64 0, .int .i64 0, .int .i64 0, .slice none 0 0]) (t := 29) ?hr ?_; (case hd => rfl); (case hg => rfl); (case hr => first | (go_simp; done) | (go_simp; rfl)); intro gb134 hg w24 hbox hb; have n0_ := Aside0.mk (Kd.R_below (by (with_reducible repeat (first | apply Kd.R_alloc | apply Kd.R_drewN | apply Kd.R_drew)); exact HO_9.out) hb); have n1_ := Aside0.mk (below_step (by repeat (first | (with_reducible first | exact HB.out | apply below_alloc | apply pw_below_drewN | apply below_drew1) | exact HB.out)) hb); have n2_ := Aside0.mk (hbox); have n3_ := Aside0.mk ((by rw [hg]; exact (below_size (by repeat (first | (with_reducible first | exact HB.out | apply below_alloc | apply pw_below_drewN | apply below_drew1) | exact HB.out))) : w.heap.size ≤ gb134)); have n4_ := Aside0.mk ((by rw [hg]; exact (below_size (by repeat (first | (with_reducible first | exact HB.out | apply below_alloc | apply pw_below_drewN | apply below_drew1) | exact HB.out))) : w.heap.size ≤ gb134)); clear HO_9; clear HB; have HO_9 := n0_; have HB := n1_; have BK134 := n2_; have GW134 := n3_; have GE134 := n4_; clear n0_ n1_ n2_ n3_ n4_; clear hb hbox hg; have hcz25_0 : w24.cell? ⟨gb134, 0, none⟩ = some (.string (⟨#[]⟩ : ByteArray)) := (blk_cell BK134.out 0).trans rfl; have hcz25_1 : w24.cell? ⟨gb134, 1, none⟩ = some (.int .i64 0) := (blk_cell BK134.out 1).trans rfl; have hcz25_2 : w24.cell? ⟨gb134, 2, none⟩ = some (.int .i64 0) := (blk_cell BK134.out 2).trans rfl; have hcz25_3 : w24.cell? ⟨gb134, 3, none⟩ = some (.int .i64 0) := (blk_cell BK134.out 3).trans rfl; have hcz25_4 : w24.cell? ⟨gb134, 4, none⟩ = some (.slice none 0 0) := (blk_cell BK134.out 4).trans rfl; have hfz25_0 := blk_frozen BK134.out 0; have hfz25_1 := blk_frozen BK134.out 1; have hfz25_2 := blk_frozen BK134.out 2; have hfz25_3 := blk_frozen BK134.out 3; have hfz25_4 := blk_frozen BK134.out 4) | ((with_reducible refine gate_dst (N := 13) rfl ?_); (try (refine gate_guard (by rfl) ?_; dsimp only)); refine box_event ?hg (N := 13) ?hd (cs := #[.string (⟨#[]⟩ : ByteArray), .int .i64 0, .int .i64 0, .int .i64 0]) (t := 31) ?hr ?_; (case hd => rfl); (case hg => rfl); (case hr => first | (go_simp; done) | (go_simp; rfl)); intro gb135 hg w26 hbox hb; have n0_ := Aside0.mk (Kd.R_below (Kd.R_elderB (by (with_reducible repeat (first | apply Kd.R_alloc | apply Kd.R_drewN | apply Kd.R_drew)); exact (Kd.R_mono (Kd.R_far (p := ⟨gb134, 4, none⟩) (Kd.R_far (p := ⟨gb134, 3, none⟩) (Kd.R_far (p := ⟨gb134, 2, none⟩) (Kd.R_far (p := ⟨gb134, 1, none⟩) (Kd.R_far (p := ⟨gb134, 0, none⟩) (Kd.R_types HO_9.out BK134.out (by decide)) (fun _ hk => hk.2) (.string ((rd_T29 l0 x46_2).f0))) (fun _ hk => hk.2) (.int .i64 ((rd_T29 l0 x46_2).f1))) (fun _ hk => hk.2) (.int .i64 ((rd_T29 l0 x46_2).f2))) (fun _ hk => hk.2) (.int .i64 ((rd_T29 l0 x46_2).f3))) (fun _ hk => hk.2) (.slice A133_4 ((rd_T29 l0 x46_2).f4).length c133_4)) (fun _ h_ => h_.1))) gb135 (Nat.le_of_eq hg.symm)) hb); have n1_ := Aside0.mk (blk_below (g := gb134) (o := .cells #[.string ((rd_T29 l0 x46_2).f0), .int .i64 ((rd_T29 l0 x46_2).f1), .int .i64 ((rd_T29 l0 x46_2).f2), .int .i64 ((rd_T29 l0 x46_2).f3), .slice A133_4 ((rd_T29 l0 x46_2).f4).length c133_4] 29 (0, 0)) (by (with_reducible repeat (first | refine blk_drewN ?_ _ | refine blk_drew ?_ | refine blk_alloc ?_ _)); refine blk_put (cs := #[.string ((rd_T29 l0 x46_2).f0), .int .i64 ((rd_T29 l0 x46_2).f1), .int .i64 ((rd_T29 l0 x46_2).f2), .int .i64 ((rd_T29 l0 x46_2).f3), .slice none 0 0]) ?_ 4 _ rfl; (with_reducible repeat (first | refine blk_drewN ?_ _ | refine blk_drew ?_ | refine blk_alloc ?_ _)); refine blk_put (cs := #[.string ((rd_T29 l0 x46_2).f0), .int .i64 ((rd_T29 l0 x46_2).f1), .int .i64 ((rd_T29 l0 x46_2).f2), .int .i64 0, .slice none 0 0]) ?_ 3 _ rfl; (with_reducible repeat (first | refine blk_drewN ?_ _ | refine blk_drew ?_ | refine blk_alloc ?_ _)); refine blk_put (cs := #[.string ((rd_T29 l0 x46_2).f0), .int .i64 ((rd_T29 l0 x46_2).f1), .int .i64 0, .int .i64 0, .slice none 0 0]) ?_ 2 _ rfl; (with_reducible repeat (first | refine blk_drewN ?_ _ | refine blk_drew ?_ | refine blk_alloc ?_ _)); refine blk_put (cs := #[.string ((rd_T29 l0 x46_2).f0), .int .i64 0, .int .i64 0, .int .i64 0, .slice none 0 0]) ?_ 1 _ rfl; (with_reducible repeat (first | refine blk_drewN ?_ _ | refine blk_drew ?_ | refine blk_alloc ?_ _)); refine blk_put (cs := #[.string (⟨#[]⟩ : ByteArray), .int .i64 0, .int .i64 0, .int .i64 0, .slice none 0 0]) ?_ 0 _ rfl; (with_reducible repeat (first | refine blk_drewN ?_ _ | refine blk_drew ?_ | refine blk_alloc ?_ _)); exact BK134.out) hb); have n2_ := Aside0.mk (below_step (by repeat (first | (with_reducible first | exact HB.out | apply below_alloc | apply pw_below_drewN | apply below_drew1 | refine below_set ?_ GE134.out) | exact HB.out)) hb); have n3_ := Aside0.mk (hbox); have n4_ := Aside0.mk ((by rw [hg]; exact (below_size (by repeat (first | (with_reducible first | exact HB.out | apply below_alloc | apply pw_below_drewN | apply below_drew1 | refine below_set ?_ GE134.out) | exact HB.out))) : w.heap.size ≤ gb135)); have n5_ := Aside0.mk ((by rw [hg]; exact (below_size (by repeat (first | (with_reducible first | exact HB.out | apply below_alloc | apply pw_below_drewN | apply below_drew1 | refine below_set ?_ GE134.out) | exact HB.out))) : w.heap.size ≤ gb135)); have n6_ := Aside0.mk ((by rw [hg]; exact Nat.ne_of_lt (blk_lt (g := gb134) (o := .cells #[.string ((rd_T29 l0 x46_2).f0), .int .i64 ((rd_T29 l0 x46_2).f1), .int .i64 ((rd_T29 l0 x46_2).f2), .int .i64 ((rd_T29 l0 x46_2).f3), .slice A133_4 ((rd_T29 l0 x46_2).f4).length c133_4] 29 (0, 0)) (by (with_reducible repeat (first | refine blk_drewN ?_ _ | refine blk_drew ?_ | refine blk_alloc ?_ _)); refine blk_put (cs := #[.string ((rd_T29 l0 x46_2).f0), .int .i64 ((rd_T29 l0 x46_2).f1), .int .i64 ((rd_T29 l0 x46_2).f2), .int .i64 ((rd_T29 l0 x46_2).f3), .slice none 0 0]) ?_ 4 _ rfl; (with_reducible repeat (first | refine blk_drewN ?_ _ | refine blk_drew ?_ | refine blk_alloc ?_ _)); refine blk_put (cs := #[.string ((rd_T29 l0 x46_2).f0), .int .i64 ((rd_T29 l0 x46_2).f1), .int .i64 ((rd_T29 l0 x46_2).f2), .int .i64 0, .slice none 0 0]) ?_ 3 _ rfl; (with_reducible repeat (first | refine blk_drewN ?_ _ | refine blk_drew ?_ | refine blk_alloc ?_ _)); refine blk_put (cs := #[.string ((rd_T29 l0 x46_2).f0), .int .i64 ((rd_T29 l0 x46_2).f1), .int .i64 0, .int .i64 0, .slice none 0 0]) ?_ 2 _ rfl; (with_reducible repeat (first | refine blk_drewN ?_ _ | refine blk_drew ?_ | refine blk_alloc ?_ _)); refine blk_put (cs := #[.string ((rd_T29 l0 x46_2).f0), .int .i64 0, .int .i64 0, .int .i64 0, .slice none 0 0]) ?_ 1 _ rfl; (with_reducible repeat (first | refine blk_drewN ?_ _ | refine blk_drew ?_ | refine blk_alloc ?_ _)); refine blk_put (cs := #[.string (⟨#[]⟩ : ByteArray), .int .i64 0, .int .i64 0, .int .i64 0, .slice none 0 0]) ?_ 0 _ rfl; (with_reducible repeat (first | refine blk_drewN ?_ _ | refine blk_drew ?_ | refine blk_alloc ?_ _)); exact BK134.out)) : gb134 ≠ gb135)); have n7_ := Aside0.mk ((by rw [hg]; exact Nat.ne_of_gt (blk_lt (g := gb134) (o := .cells #[.string ((rd_T29 l0 x46_2).f0), .int .i64 ((rd_T29 l0 x46_2).f1), .int .i64 ((rd_T29 l0 x46_2).f2), .int .i64 ((rd_T29 l0 x46_2).f3), .slice A133_4 ((rd_T29 l0 x46_2).f4).length c133_4] 29 (0, 0)) (by (with_reducible repeat (first | refine blk_drewN ?_ _ | refine blk_drew ?_ | refine blk_alloc ?_ _)); refine blk_put (cs := #[.string ((rd_T29 l0 x46_2).f0), .int .i64 ((rd_T29 l0 x46_2).f1), .int .i64 ((rd_T29 l0 x46_2).f2), .int .i64 ((rd_T29 l0 x46_2).f3), .slice none 0 0]) ?_ 4 _ rfl; (with_reducible repeat (first | refine blk_drewN ?_ _ | refine blk_drew ?_ | refine blk_alloc ?_ _)); refine blk_put (cs := #[.string ((rd_T29 l0 x46_2).f0), .int .i64 ((rd_T29 l0 x46_2).f1), .int .i64 ((rd_T29 l0 x46_2).f2), .int .i64 0, .slice none 0 0]) ?_ 3 _ rfl; (with_reducible repeat (first | refine blk_drewN ?_ _ | refine blk_drew ?_ | refine blk_alloc ?_ _)); refine blk_put (cs := #[.string ((rd_T29 l0 x46_2).f0), .int .i64 ((rd_T29 l0 x46_2).f1), .int .i64 0, .int .i64 0, .slice none 0 0]) ?_ 2 _ rfl; (with_reducible repeat (first | refine blk_drewN ?_ _ | refine blk_drew ?_ | refine blk_alloc ?_ _)); refine blk_put (cs := #[.string ((rd_T29 l0 x46_2).f0), .int .i64 0, .int .i64 0, .int .i64 0, .slice none 0 0]) ?_ 1 _ rfl; (with_reducible repeat (first | refine blk_drewN ?_ _ | refine blk_drew ?_ | refine blk_alloc ?_ _)); refine blk_put (cs := #[.string (⟨#[]⟩ : ByteArray), .int .i64 0, .int .i64 0, .int .i64 0, .slice none 0 0]) ?_ 0 _ rfl; (with_reducible repeat (first | refine blk_drewN ?_ _ | refine blk_drew ?_ | refine blk_alloc ?_ _)); exact BK134.out)) : gb135 ≠ gb134)); clear HO_9; clear BK134; clear HB; have HO_9 := n0_; have BK134 := n1_; have HB := n2_; have BK135 := n3_; have GW135 := n4_; have GE135 := n5_; have NB134_135 := n6_; have NB135_134 := n7_; clear n0_ n1_ n2_ n3_ n4_ n5_ n6_ n7_; clear hb hbox hg; have hnb27 := NB135_134.out; have hnc27 := NB134_135.out; have hcz28_0 : w26.cell? ⟨gb135, 0, none⟩ = some (.string (⟨#[]⟩ : ByteArray)) := (blk_cell BK135.out 0).trans rfl; have hcz28_1 : w26.cell? ⟨gb135, 1, none⟩ = some (.int .i64 0) := (blk_cell BK135.out 1).trans rfl; have hcz28_2 : w26.cell? ⟨gb135, 2, none⟩ = some (.int .i64 0) := (blk_cell BK135.out 2).trans rfl; have hcz28_3 : w26.cell? ⟨gb135, 3, none⟩ = some (.int .i64 0) := (blk_cell BK135.out 3).trans rfl; have hfz28_0 := blk_frozen BK135.out 0; have hfz28_1 := blk_frozen BK135.out 1; have hfz28_2 := blk_frozen BK135.out 2; have hfz28_3 := blk_frozen BK135.out 3)); try go_wp2_with (first | ((with_reducible refine gate_dst (N := 12) rfl ?_); (try (refine gate_guard (by rfl) ?_; dsimp only)); refine box_event ?hg (N := 12) ?hd (cs := #[.string (⟨#[]⟩ : ByteArray), .int .i64 0, .int .i64 0, .int .i64 0, .slice none 0 0]) (t := 29) ?hr ?_; (case hd => rfl); (case hg => rfl); (case hr => first | (go_simp; done) | (go_simp; rfl)); intro gb134 hg w24 hbox hb; have n0_ := Aside0.mk (Kd.R_below (by (with_reducible repeat (first | apply Kd.R_alloc | apply Kd.R_drewN | apply Kd.R_drew)); exact HO_9.out) hb); have n1_ := Aside0.mk (below_step (by repeat (first | (with_reducible first | exact HB.out | apply below_alloc | apply pw_below_drewN | apply below_drew1) | exact HB.out)) hb); have n2_ := Aside0.mk (hbox); have n3_ := Aside0.mk ((by rw [hg]; exact (below_size (by repeat (first | (with_reducible first | exact HB.out | apply below_alloc | apply pw_below_drewN | apply below_drew1) | exact HB.out))) : w.heap.size ≤ gb134)); have n4_ := Aside0.mk ((by rw [hg]; exact (below_size (by repeat (first | (with_reducible first | exact HB.out | apply below_alloc | apply pw_below_drewN | apply below_drew1) | exact HB.out))) : w.heap.size ≤ gb134)); clear HO_9; clear HB; have HO_9 := n0_; have HB := n1_; have BK134 := n2_; have GW134 := n3_; have GE134 := n4_; clear n0_ n1_ n2_ n3_ n4_; clear hb hbox hg; have hcz25_0 : w24.cell? ⟨gb134, 0, none⟩ = some (.string (⟨#[]⟩ : ByteArray)) := (blk_cell BK134.out 0).trans rfl; have hcz25_1 : w24.cell? ⟨gb134, 1, none⟩ = some (.int .i64 0) := (blk_cell BK134.out 1).trans rfl; have hcz25_2 : w24.cell? ⟨gb134, 2, none⟩ = some (.int .i64 0) := (blk_cell BK134.out 2).trans rfl; have hcz25_3 : w24.cell? ⟨gb134, 3, none⟩ = some (.int .i64 0) := (blk_cell BK134.out 3).trans rfl; have hcz25_4 : w24.cell? ⟨gb134, 4, none⟩ = some (.slice none 0 0) := (blk_cell BK134.out 4).trans rfl; have hfz25_0 := blk_frozen BK134.out 0; have hfz25_1 := blk_frozen BK134.out 1; have hfz25_2 := blk_frozen BK134.out 2; have hfz25_3 := blk_frozen BK134.out 3; have hfz25_4 := blk_frozen BK134.out 4) | ((with_reducible refine gate_dst (N := 13) rfl ?_); (try (refine gate_guard (by rfl) ?_; dsimp only)); refine box_event ?hg (N := 13) ?hd (cs := #[.string (⟨#[]⟩ : ByteArray), .int .i64 0, .int .i64 0, .int .i64 0]) (t := 31) ?hr ?_; (case hd => rfl); (case hg => rfl); (case hr => first | (go_simp; done) | (go_simp; rfl)); intro gb135 hg w26 hbox hb; have n0_ := Aside0.mk (Kd.R_below (Kd.R_elderB (by (with_reducible repeat (first | apply Kd.R_alloc | apply Kd.R_drewN | apply Kd.R_drew)); exact (Kd.R_mono (Kd.R_far (p := ⟨gb134, 4, none⟩) (Kd.R_far (p := ⟨gb134, 3, none⟩) (Kd.R_far (p := ⟨gb134, 2, none⟩) (Kd.R_far (p := ⟨gb134, 1, none⟩) (Kd.R_far (p := ⟨gb134, 0, none⟩) (Kd.R_types HO_9.out BK134.out (by decide)) (fun _ hk => hk.2) (.string ((rd_T29 l0 x46_2).f0))) (fun _ hk => hk.2) (.int .i64 ((rd_T29 l0 x46_2).f1))) (fun _ hk => hk.2) (.int .i64 ((rd_T29 l0 x46_2).f2))) (fun _ hk => hk.2) (.int .i64 ((rd_T29 l0 x46_2).f3))) (fun _ hk => hk.2) (.slice A133_4 ((rd_T29 l0 x46_2).f4).length c133_4)) (fun _ h_ => h_.1))) gb135 (Nat.le_of_eq hg.symm)) hb); have n1_ := Aside0.mk (blk_below (g := gb134) (o := .cells #[.string ((rd_T29 l0 x46_2).f0), .int .i64 ((rd_T29 l0 x46_2).f1), .int .i64 ((rd_T29 l0 x46_2).f2), .int .i64 ((rd_T29 l0 x46_2).f3), .slice A133_4 ((rd_T29 l0 x46_2).f4).length c133_4] 29 (0, 0)) (by (with_reducible repeat (first | refine blk_drewN ?_ _ | refine blk_drew ?_ | refine blk_alloc ?_ _)); refine blk_put (cs := #[.string ((rd_T29 l0 x46_2).f0), .int .i64 ((rd_T29 l0 x46_2).f1), .int .i64 ((rd_T29 l0 x46_2).f2), .int .i64 ((rd_T29 l0 x46_2).f3), .slice none 0 0]) ?_ 4 _ rfl; (with_reducible repeat (first | refine blk_drewN ?_ _ | refine blk_drew ?_ | refine blk_alloc ?_ _)); refine blk_put (cs := #[.string ((rd_T29 l0 x46_2).f0), .int .i64 ((rd_T29 l0 x46_2).f1), .int .i64 ((rd_T29 l0 x46_2).f2), .int .i64 0, .slice none 0 0]) ?_ 3 _ rfl; (with_reducible repeat (first | refine blk_drewN ?_ _ | refine blk_drew ?_ | refine blk_alloc ?_ _)); refine blk_put (cs := #[.string ((rd_T29 l0 x46_2).f0), .int .i64 ((rd_T29 l0 x46_2).f1), .int .i64 0, .int .i64 0, .slice none 0 0]) ?_ 2 _ rfl; (with_reducible repeat (first | refine blk_drewN ?_ _ | refine blk_drew ?_ | refine blk_alloc ?_ _)); refine blk_put (cs := #[.string ((rd_T29 l0 x46_2).f0), .int .i64 0, .int .i64 0, .int .i64 0, .slice none 0 0]) ?_ 1 _ rfl; (with_reducible repeat (first | refine blk_drewN ?_ _ | refine blk_drew ?_ | refine blk_alloc ?_ _)); refine blk_put (cs := #[.string (⟨#[]⟩ : ByteArray), .int .i64 0, .int .i64 0, .int .i64 0, .slice none 0 0]) ?_ 0 _ rfl; (with_reducible repeat (first | refine blk_drewN ?_ _ | refine blk_drew ?_ | refine blk_alloc ?_ _)); exact BK134.out) hb); have n2_ := Aside0.mk (below_step (by repeat (first | (with_reducible first | exact HB.out | apply below_alloc | apply pw_below_drewN | apply below_drew1 | refine below_set ?_ GE134.out) | exact HB.out)) hb); have n3_ := Aside0.mk (hbox); have n4_ := Aside0.mk ((by rw [hg]; exact (below_size (by repeat (first | (with_reducible first | exact HB.out | apply below_alloc | apply pw_below_drewN | apply below_drew1 | refine below_set ?_ GE134.out) | exact HB.out))) : w.heap.size ≤ gb135)); have n5_ := Aside0.mk ((by rw [hg]; exact (below_size (by repeat (first | (with_reducible first | exact HB.out | apply below_alloc | apply pw_below_drewN | apply below_drew1 | refine below_set ?_ GE134.out) | exact HB.out))) : w.heap.size ≤ gb135)); have n6_ := Aside0.mk ((by rw [hg]; exact Nat.ne_of_lt (blk_lt (g := gb134) (o := .cells #[.string ((rd_T29 l0 x46_2).f0), .int .i64 ((rd_T29 l0 x46_2).f1), .int .i64 ((rd_T29 l0 x46_2).f2), .int .i64 ((rd_T29 l0 x46_2).f3), .slice A133_4 ((rd_T29 l0 x46_2).f4).length c133_4] 29 (0, 0)) (by (with_reducible repeat (first | refine blk_drewN ?_ _ | refine blk_drew ?_ | refine blk_alloc ?_ _)); refine blk_put (cs := #[.string ((rd_T29 l0 x46_2).f0), .int .i64 ((rd_T29 l0 x46_2).f1), .int .i64 ((rd_T29 l0 x46_2).f2), .int .i64 ((rd_T29 l0 x46_2).f3), .slice none 0 0]) ?_ 4 _ rfl; (with_reducible repeat (first | refine blk_drewN ?_ _ | refine blk_drew ?_ | refine blk_alloc ?_ _)); refine blk_put (cs := #[.string ((rd_T29 l0 x46_2).f0), .int .i64 ((rd_T29 l0 x46_2).f1), .int .i64 ((rd_T29 l0 x46_2).f2), .int .i64 0, .slice none 0 0]) ?_ 3 _ rfl; (with_reducible repeat (first | refine blk_drewN ?_ _ | refine blk_drew ?_ | refine blk_alloc ?_ _)); refine blk_put (cs := #[.string ((rd_T29 l0 x46_2).f0), .int .i64 ((rd_T29 l0 x46_2).f1), .int .i64 0, .int .i64 0, .slice none 0 0]) ?_ 2 _ rfl; (with_reducible repeat (first | refine blk_drewN ?_ _ | refine blk_drew ?_ | refine blk_alloc ?_ _)); refine blk_put (cs := #[.string ((rd_T29 l0 x46_2).f0), .int .i64 0, .int .i64 0, .int .i64 0, .slice none 0 0]) ?_ 1 _ rfl; (with_reducible repeat (first | refine blk_drewN ?_ _ | refine blk_drew ?_ | refine blk_alloc ?_ _)); refine blk_put (cs := #[.string (⟨#[]⟩ : ByteArray), .int .i64 0, .int .i64 0, .int .i64 0, .slice none 0 0]) ?_ 0 _ rfl; (with_reducible repeat (first | refine blk_drewN ?_ _ | refine blk_drew ?_ | refine blk_alloc ?_ _)); exact BK134.out)) : gb134 ≠ gb135)); have n7_ := Aside0.mk ((by rw [hg]; exact Nat.ne_of_gt (blk_lt (g := gb134) (o := .cells #[.string ((rd_T29 l0 x46_2).f0), .int .i64 ((rd_T29 l0 x46_2).f1), .int .i64 ((rd_T29 l0 x46_2).f2), .int .i64 ((rd_T29 l0 x46_2).f3), .slice A133_4 ((rd_T29 l0 x46_2).f4).length c133_4] 29 (0, 0)) (by (with_reducible repeat (first | refine blk_drewN ?_ _ | refine blk_drew ?_ | refine blk_alloc ?_ _)); refine blk_put (cs := #[.string ((rd_T29 l0 x46_2).f0), .int .i64 ((rd_T29 l0 x46_2).f1), .int .i64 ((rd_T29 l0 x46_2).f2), .int .i64 ((rd_T29 l0 x46_2).f3), .slice none 0 0]) ?_ 4 _ rfl; (with_reducible repeat (first | refine blk_drewN ?_ _ | refine blk_drew ?_ | refine blk_alloc ?_ _)); refine blk_put (cs := #[.string ((rd_T29 l0 x46_2).f0), .int .i64 ((rd_T29 l0 x46_2).f1), .int .i64 ((rd_T29 l0 x46_2).f2), .int .i64 0, .slice none 0 0]) ?_ 3 _ rfl; (with_reducible repeat (first | refine blk_drewN ?_ _ | refine blk_drew ?_ | refine blk_alloc ?_ _)); refine blk_put (cs := #[.string ((rd_T29 l0 x46_2).f0), .int .i64 ((rd_T29 l0 x46_2).f1), .int .i64 0, .int .i64 0, .slice none 0 0]) ?_ 2 _ rfl; (with_reducible repeat (first | refine blk_drewN ?_ _ | refine blk_drew ?_ | refine blk_alloc ?_ _)); refine blk_put (cs := #[.string ((rd_T29 l0 x46_2).f0), .int .i64 0, .int .i64 0, .int .i64 0, .slice none 0 0]) ?_ 1 _ rfl; (with_reducible repeat (first | refine blk_drewN ?_ _ | refine blk_drew ?_ | refine blk_alloc ?_ _)); refine blk_put (cs := #[.string (⟨#[]⟩ : ByteArray), .int .i64 0, .int .i64 0, .int .i64 0, .slice none 0 0]) ?_ 0 _ rfl; (with_reducible repeat (first | refine blk_drewN ?_ _ | refine blk_drew ?_ | refine blk_alloc ?_ _)); exact BK134.out)) : gb135 ≠ gb134)); clear HO_9; clear BK134; clear HB; have HO_9 := n0_; have BK134 := n1_; have HB := n2_; have BK135 := n3_; have GW135 := n4_; have GE135 := n5_; have NB134_135 := n6_; have NB135_134 := n7_; clear n0_ n1_ n2_ n3_ n4_ n5_ n6_ n7_; clear hb hbox hg; have hnb27 := NB135_134.out; have hnc27 := NB134_135.out; have hcz28_0 : w26.cell? ⟨gb135, 0, none⟩ = some (.string (⟨#[]⟩ : ByteArray)) := (blk_cell BK135.out 0).trans rfl; have hcz28_1 : w26.cell? ⟨gb135, 1, none⟩ = some (.int .i64 0) := (blk_cell BK135.out 1).trans rfl; have hcz28_2 : w26.cell? ⟨gb135, 2, none⟩ = some (.int .i64 0) := (blk_cell BK135.out 2).trans rfl; have hcz28_3 : w26.cell? ⟨gb135, 3, none⟩ = some (.int .i64 0) := (blk_cell BK135.out 3).trans rfl; have hfz28_0 := blk_frozen BK135.out 0; have hfz28_1 := blk_frozen BK135.out 1; have hfz28_2 := blk_frozen BK135.out 2; have hfz28_3 := blk_frozen BK135.out 3)))
           go_loopg [58] k2 (fun kq v58 w' => ∃ (x58_3 : Int) (x136001_3 : Int) (x136002_3 : Int) (x136003_3 : Int), v58 = .int .i64 x58_3 ∧ Aside0 (sumplaw42_UsageDoes.l1 kq l0 a1 a2 l3 t130 x10_2 l0 (l0.length : Int) x46_2 l0 (l0.length : Int) x58_3 ((rd_T29 l0 x46_2).f0) ((rd_T29 l0 x46_2).f1) ((rd_T29 l0 x46_2).f2) ((rd_T29 l0 x46_2).f3) ((rd_T29 l0 x46_2).f4) ((rd_T29 l0 x46_2).f0) x136001_3 x136002_3 x136003_3 = some r) ∧ Aside0 (kq ≤ k2) ∧ Aside0 (Kd.R k31 31 w' w.heap.size (fun k_ => k_ ≠ gb135) v131 t130) ∧ Aside0 (w'.heap[gb134]? = some (.cells #[.string ((rd_T29 l0 x46_2).f0), .int .i64 ((rd_T29 l0 x46_2).f1), .int .i64 ((rd_T29 l0 x46_2).f2), .int .i64 ((rd_T29 l0 x46_2).f3), (.slice A133_4 ((rd_T29 l0 x46_2).f4).length c133_4)] 29 (0, 0))) ∧ Aside0 (w'.heap[gb135]? = some (.cells #[.string ((rd_T29 l0 x46_2).f0), .int .i64 x136001_3, .int .i64 x136002_3, .int .i64 x136003_3] 31 (0, 0))) ∧ Aside0 (Below w.heap.size w w'))
           case atStart => exact ⟨(0), (0), (0), (0), (by first | rfl | (simp; done) | (simp [*]; done)), H', ⟨Nat.le_refl _⟩, ⟨by (with_reducible repeat (first | apply Kd.R_alloc | apply Kd.R_drewN | apply Kd.R_drew)); exact Kd.R_mono (Kd.R_far (p := ⟨gb135, 3, none⟩) (Kd.R_far (p := ⟨gb135, 2, none⟩) (Kd.R_far (p := ⟨gb135, 1, none⟩) (Kd.R_far (p := ⟨gb135, 0, none⟩) (Kd.R_mono HO_9.out (fun k_ hk => (⟨hk, hk.2⟩ : _ ∧ k_ ≠ gb135))) (fun _ hk => hk.2) (.string ((rd_T29 l0 x46_2).f0))) (fun _ hk => hk.2) (.int .i64 0)) (fun _ hk => hk.2) (.int .i64 0)) (fun _ hk => hk.2) (.int .i64 0)) (fun _ hk => hk.1.2)⟩, ⟨by (with_reducible repeat (first | refine blk_drewN ?_ _ | refine blk_drew ?_ | refine blk_alloc ?_ _)); refine blk_far ?_ NB134_135.out _; (with_reducible repeat (first | refine blk_drewN ?_ _ | refine blk_drew ?_ | refine blk_alloc ?_ _)); refine blk_far ?_ NB134_135.out _; (with_reducible repeat (first | refine blk_drewN ?_ _ | refine blk_drew ?_ | refine blk_alloc ?_ _)); refine blk_far ?_ NB134_135.out _; (with_reducible repeat (first | refine blk_drewN ?_ _ | refine blk_drew ?_ | refine blk_alloc ?_ _)); refine blk_far ?_ NB134_135.out _; (with_reducible repeat (first | refine blk_drewN ?_ _ | refine blk_drew ?_ | refine blk_alloc ?_ _)); exact BK134.out⟩, ⟨by (with_reducible repeat (first | refine blk_drewN ?_ _ | refine blk_drew ?_ | refine blk_alloc ?_ _)); refine blk_put (cs := #[.string ((rd_T29 l0 x46_2).f0), .int .i64 0, .int .i64 0, .int .i64 0]) ?_ 3 _ rfl; (with_reducible repeat (first | refine blk_drewN ?_ _ | refine blk_drew ?_ | refine blk_alloc ?_ _)); refine blk_put (cs := #[.string ((rd_T29 l0 x46_2).f0), .int .i64 0, .int .i64 0, .int .i64 0]) ?_ 2 _ rfl; (with_reducible repeat (first | refine blk_drewN ?_ _ | refine blk_drew ?_ | refine blk_alloc ?_ _)); refine blk_put (cs := #[.string ((rd_T29 l0 x46_2).f0), .int .i64 0, .int .i64 0, .int .i64 0]) ?_ 1 _ rfl; (with_reducible repeat (first | refine blk_drewN ?_ _ | refine blk_drew ?_ | refine blk_alloc ?_ _)); refine blk_put (cs := #[.string (⟨#[]⟩ : ByteArray), .int .i64 0, .int .i64 0, .int .i64 0]) ?_ 0 _ rfl; (with_reducible repeat (first | refine blk_drewN ?_ _ | refine blk_drew ?_ | refine blk_alloc ?_ _)); exact BK135.out⟩, ⟨by repeat (first | (with_reducible first | exact HB.out | apply below_alloc | apply pw_below_drewN | apply below_drew1 | refine below_set ?_ GE134.out | refine below_set ?_ GE135.out) | exact HB.out)⟩⟩
           case round =>
            clear H'
            try clear c1
            try clear p1
            try clear q1
            try clear hx1
            try clear c2
            try clear p2
            try clear c3
            try clear c6
            try clear c10
            try clear c11
            try clear c11b0
            try clear c11b1
            try clear c13
            try clear c13b0
            try clear c13b1
            try clear p13
            try clear q13
            try clear hx13
            try clear c17
            try clear c20
            try clear c20b0
            try clear c21
            try clear c21b0
            try clear c22
            try clear c22b0
            try clear c23
            try clear c23b0
            try clear c23b1
            try clear c27
            try clear hcz25_0
            try clear hcz25_1
            try clear hcz25_2
            try clear hcz25_3
            try clear hcz25_4
            try clear hcz28_0
            try clear hcz28_1
            try clear hcz28_2
            try clear hcz28_3
            try clear hfz25_0
            try clear hfz25_1
            try clear hfz25_2
            try clear hfz25_3
            try clear hfz25_4
            try clear hfz28_0
            try clear hfz28_1
            try clear hfz28_2
            try clear hfz28_3
            try clear hx133_0
            try clear hx133_1
            try clear hx133_2
            try clear hx133_3
            try clear hx133_4
            try clear p133
            try clear p2
            try clear q133
            obtain ⟨x58_3, x136001_3, x136002_3, x136003_3, rfl, HA, HK3, HO_9, BK134, BK135, HB⟩ := hrel
            cases gk with
            | zero => exact absurd HA.out (by simp [sumplaw42_UsageDoes.l1])
            | succ k3 =>
             have H := HA.out
             clear HA
             simp only [sumplaw42_UsageDoes.l1] at H
             by_cases c29 : x58_3 < (l0.length : Int)
             ·rw [if_pos c29] at H
              have c29b0 : decide (x58_3 < (l0.length : Int)) = true := decide_eq_true c29
              clear c29
              by_cases c30 : 0 ≤ x58_3
              ·rw [if_pos c30] at H
               have c30b0 : decide (0 ≤ x58_3) = true := decide_eq_true c30
               clear c30
               by_cases c31 : x58_3 < (l0.length : Int)
               ·rw [if_pos c31] at H
                have c31b0 : decide (x58_3 < (l0.length : Int)) = true := decide_eq_true c31
                clear c31
                have HC32 := Aside0.mk H
                clear H
                have p137 : 0 ≤ (x58_3 : Int) := of_decide_eq_true (by first | (with_reducible assumption) | assumption)
                have q137 : x58_3 < (l0.length : Int) := of_decide_eq_true (by first | (with_reducible assumption) | assumption)
                obtain ⟨ad137, A137_4, c137_4, e137, hx137_0, hx137_1, hx137_2, hx137_3, hx137_4, hl137_4, hi137_4⟩ := at_T29 HR0.out x58_3 p137 q137
                obtain rfl : ad133 = ad137 := (by injection e137)
                replace hx137_0 := (HB.out.cell (World.block_lt_of_cell? w _ hx137_0)).trans hx137_0
                replace hx137_1 := (HB.out.cell (World.block_lt_of_cell? w _ hx137_1)).trans hx137_1
                replace hx137_2 := (HB.out.cell (World.block_lt_of_cell? w _ hx137_2)).trans hx137_2
                replace hx137_3 := (HB.out.cell (World.block_lt_of_cell? w _ hx137_3)).trans hx137_3
                replace hx137_4 := (HB.out.cell (World.block_lt_of_cell? w _ hx137_4)).trans hx137_4
                have HR137_4 := Aside0.mk hi137_4
                have HC137_4 := Aside0.mk hl137_4
                clear hi137_4 hl137_4
                replace p137 := eq_true p137
                replace q137 := eq_true q137
                go_upto_region 15 with (first | ((with_reducible refine gate_dst (N := 15) rfl ?_); (try (refine gate_guard (by rfl) ?_; dsimp only)); refine box_event ?hg (N := 15) ?hd (cs := #[.string (⟨#[]⟩ : ByteArray), .int .i64 0, .int .i64 0, .int .i64 0, .slice none 0 0]) (t := 29) ?hr ?_; (case hd => rfl); (case hg => rfl); (case hr => first | (go_simp; done) | (go_simp; rfl)); intro gb138 hg w33 hbox hb; have n0_ := Aside0.mk (Kd.R_below (by (with_reducible repeat (first | apply Kd.R_alloc | apply Kd.R_drewN | apply Kd.R_drew)); exact HO_9.out) hb); have n1_ := Aside0.mk (blk_below (g := gb134) (o := .cells #[.string ((rd_T29 l0 x46_2).f0), .int .i64 ((rd_T29 l0 x46_2).f1), .int .i64 ((rd_T29 l0 x46_2).f2), .int .i64 ((rd_T29 l0 x46_2).f3), .slice A133_4 ((rd_T29 l0 x46_2).f4).length c133_4] 29 (0, 0)) (by (with_reducible repeat (first | refine blk_drewN ?_ _ | refine blk_drew ?_ | refine blk_alloc ?_ _)); exact BK134.out) hb); have n2_ := Aside0.mk (blk_below (g := gb135) (o := .cells #[.string ((rd_T29 l0 x46_2).f0), .int .i64 x136001_3, .int .i64 x136002_3, .int .i64 x136003_3] 31 (0, 0)) (by (with_reducible repeat (first | refine blk_drewN ?_ _ | refine blk_drew ?_ | refine blk_alloc ?_ _)); exact BK135.out) hb); have n3_ := Aside0.mk (below_step (by repeat (first | (with_reducible first | exact HB.out | apply below_alloc | apply pw_below_drewN | apply below_drew1 | refine below_set ?_ GE134.out | refine below_set ?_ GE135.out) | exact HB.out)) hb); have n4_ := Aside0.mk (hbox); have n5_ := Aside0.mk ((by rw [hg]; exact (below_size (by repeat (first | (with_reducible first | exact HB.out | apply below_alloc | apply pw_below_drewN | apply below_drew1 | refine below_set ?_ GE134.out | refine below_set ?_ GE135.out) | exact HB.out))) : w.heap.size ≤ gb138)); have n6_ := Aside0.mk ((by rw [hg]; exact (below_size (by repeat (first | (with_reducible first | exact HB.out | apply below_alloc | apply pw_below_drewN | apply below_drew1 | refine below_set ?_ GE134.out | refine below_set ?_ GE135.out) | exact HB.out))) : w.heap.size ≤ gb138)); have n7_ := Aside0.mk ((by rw [hg]; exact Nat.ne_of_lt (blk_lt (g := gb134) (o := .cells #[.string ((rd_T29 l0 x46_2).f0), .int .i64 ((rd_T29 l0 x46_2).f1), .int .i64 ((rd_T29 l0 x46_2).f2), .int .i64 ((rd_T29 l0 x46_2).f3), .slice A133_4 ((rd_T29 l0 x46_2).f4).length c133_4] 29 (0, 0)) (by (with_reducible repeat (first | refine blk_drewN ?_ _ | refine blk_drew ?_ | refine blk_alloc ?_ _)); exact BK134.out)) : gb134 ≠ gb138)); have n8_ := Aside0.mk ((by rw [hg]; exact Nat.ne_of_gt (blk_lt (g := gb134) (o := .cells #[.string ((rd_T29 l0 x46_2).f0), .int .i64 ((rd_T29 l0 x46_2).f1), .int .i64 ((rd_T29 l0 x46_2).f2), .int .i64 ((rd_T29 l0 x46_2).f3), .slice A133_4 ((rd_T29 l0 x46_2).f4).length c133_4] 29 (0, 0)) (by (with_reducible repeat (first | refine blk_drewN ?_ _ | refine blk_drew ?_ | refine blk_alloc ?_ _)); exact BK134.out)) : gb138 ≠ gb134)); have n9_ := Aside0.mk ((by rw [hg]; exact Nat.ne_of_lt (blk_lt (g := gb135) (o := .cells #[.string ((rd_T29 l0 x46_2).f0), .int .i64 x136001_3, .int .i64 x136002_3, .int .i64 x136003_3] 31 (0, 0)) (by (with_reducible repeat (first | refine blk_drewN ?_ _ | refine blk_drew ?_ | refine blk_alloc ?_ _)); exact BK135.out)) : gb135 ≠ gb138)); have n10_ := Aside0.mk ((by rw [hg]; exact Nat.ne_of_gt (blk_lt (g := gb135) (o := .cells #[.string ((rd_T29 l0 x46_2).f0), .int .i64 x136001_3, .int .i64 x136002_3, .int .i64 x136003_3] 31 (0, 0)) (by (with_reducible repeat (first | refine blk_drewN ?_ _ | refine blk_drew ?_ | refine blk_alloc ?_ _)); exact BK135.out)) : gb138 ≠ gb135)); clear HO_9; clear BK134; clear BK135; clear HB; have HO_9 := n0_; have BK134 := n1_; have BK135 := n2_; have HB := n3_; have BK138 := n4_; have GW138 := n5_; have GE138 := n6_; have NB134_138 := n7_; have NB138_134 := n8_; have NB135_138 := n9_; have NB138_135 := n10_; clear n0_ n1_ n2_ n3_ n4_ n5_ n6_ n7_ n8_ n9_ n10_; clear hb hbox hg; have hnb34 := NB138_134.out; have hnc34 := NB134_138.out; have hnb35 := NB138_135.out; have hnc35 := NB135_138.out; have hcz36_0 : w33.cell? ⟨gb138, 0, none⟩ = some (.string (⟨#[]⟩ : ByteArray)) := (blk_cell BK138.out 0).trans rfl; have hcz36_1 : w33.cell? ⟨gb138, 1, none⟩ = some (.int .i64 0) := (blk_cell BK138.out 1).trans rfl; have hcz36_2 : w33.cell? ⟨gb138, 2, none⟩ = some (.int .i64 0) := (blk_cell BK138.out 2).trans rfl; have hcz36_3 : w33.cell? ⟨gb138, 3, none⟩ = some (.int .i64 0) := (blk_cell BK138.out 3).trans rfl; have hcz36_4 : w33.cell? ⟨gb138, 4, none⟩ = some (.slice none 0 0) := (blk_cell BK138.out 4).trans rfl; have hfz36_0 := blk_frozen BK138.out 0; have hfz36_1 := blk_frozen BK138.out 1; have hfz36_2 := blk_frozen BK138.out 2; have hfz36_3 := blk_frozen BK138.out 3; have hfz36_4 := blk_frozen BK138.out 4))
                repeat (go_quiet (first | ((with_reducible refine gate_dst (N := 15) rfl ?_); (try (refine gate_guard (by rfl) ?_; dsimp only)); refine box_event ?hg (N := 15) ?hd (cs := #[.string (⟨#[]⟩ : ByteArray), .int .i64 0, .int .i64 0, .int .i64 0, .slice none 0 0]) (t := 29) ?hr ?_; (case hd => rfl); (case hg => rfl); (case hr => first | (go_simp; done) | (go_simp; rfl)); intro gb138 hg w33 hbox hb; have n0_ := Aside0.mk (Kd.R_below (by (with_reducible repeat (first | apply Kd.R_alloc | apply Kd.R_drewN | apply Kd.R_drew)); exact HO_9.out) hb); have n1_ := Aside0.mk (blk_below (g := gb134) (o := .cells #[.string ((rd_T29 l0 x46_2).f0), .int .i64 ((rd_T29 l0 x46_2).f1), .int .i64 ((rd_T29 l0 x46_2).f2), .int .i64 ((rd_T29 l0 x46_2).f3), .slice A133_4 ((rd_T29 l0 x46_2).f4).length c133_4] 29 (0, 0)) (by (with_reducible repeat (first | refine blk_drewN ?_ _ | refine blk_drew ?_ | refine blk_alloc ?_ _)); exact BK134.out) hb); have n2_ := Aside0.mk (blk_below (g := gb135) (o := .cells #[.string ((rd_T29 l0 x46_2).f0), .int .i64 x136001_3, .int .i64 x136002_3, .int .i64 x136003_3] 31 (0, 0)) (by (with_reducible repeat (first | refine blk_drewN ?_ _ | refine blk_drew ?_ | refine blk_alloc ?_ _)); exact BK135.out) hb); have n3_ := Aside0.mk (below_step (by repeat (first | (with_reducible first | exact HB.out | apply below_alloc | apply pw_below_drewN | apply below_drew1 | refine below_set ?_ GE134.out | refine below_set ?_ GE135.out) | exact HB.out)) hb); have n4_ := Aside0.mk (hbox); have n5_ := Aside0.mk ((by rw [hg]; exact (below_size (by repeat (first | (with_reducible first | exact HB.out | apply below_alloc | apply pw_below_drewN | apply below_drew1 | refine below_set ?_ GE134.out | refine below_set ?_ GE135.out) | exact HB.out))) : w.heap.size ≤ gb138)); have n6_ := Aside0.mk ((by rw [hg]; exact (below_size (by repeat (first | (with_reducible first | exact HB.out | apply below_alloc | apply pw_below_drewN | apply below_drew1 | refine below_set ?_ GE134.out | refine below_set ?_ GE135.out) | exact HB.out))) : w.heap.size ≤ gb138)); have n7_ := Aside0.mk ((by rw [hg]; exact Nat.ne_of_lt (blk_lt (g := gb134) (o := .cells #[.string ((rd_T29 l0 x46_2).f0), .int .i64 ((rd_T29 l0 x46_2).f1), .int .i64 ((rd_T29 l0 x46_2).f2), .int .i64 ((rd_T29 l0 x46_2).f3), .slice A133_4 ((rd_T29 l0 x46_2).f4).length c133_4] 29 (0, 0)) (by (with_reducible repeat (first | refine blk_drewN ?_ _ | refine blk_drew ?_ | refine blk_alloc ?_ _)); exact BK134.out)) : gb134 ≠ gb138)); have n8_ := Aside0.mk ((by rw [hg]; exact Nat.ne_of_gt (blk_lt (g := gb134) (o := .cells #[.string ((rd_T29 l0 x46_2).f0), .int .i64 ((rd_T29 l0 x46_2).f1), .int .i64 ((rd_T29 l0 x46_2).f2), .int .i64 ((rd_T29 l0 x46_2).f3), .slice A133_4 ((rd_T29 l0 x46_2).f4).length c133_4] 29 (0, 0)) (by (with_reducible repeat (first | refine blk_drewN ?_ _ | refine blk_drew ?_ | refine blk_alloc ?_ _)); exact BK134.out)) : gb138 ≠ gb134)); have n9_ := Aside0.mk ((by rw [hg]; exact Nat.ne_of_lt (blk_lt (g := gb135) (o := .cells #[.string ((rd_T29 l0 x46_2).f0), .int .i64 x136001_3, .int .i64 x136002_3, .int .i64 x136003_3] 31 (0, 0)) (by (with_reducible repeat (first | refine blk_drewN ?_ _ | refine blk_drew ?_ | refine blk_alloc ?_ _)); exact BK135.out)) : gb135 ≠ gb138)); have n10_ := Aside0.mk ((by rw [hg]; exact Nat.ne_of_gt (blk_lt (g := gb135) (o := .cells #[.string ((rd_T29 l0 x46_2).f0), .int .i64 x136001_3, .int .i64 x136002_3, .int .i64 x136003_3] 31 (0, 0)) (by (with_reducible repeat (first | refine blk_drewN ?_ _ | refine blk_drew ?_ | refine blk_alloc ?_ _)); exact BK135.out)) : gb138 ≠ gb135)); clear HO_9; clear BK134; clear BK135; clear HB; have HO_9 := n0_; have BK134 := n1_; have BK135 := n2_; have HB := n3_; have BK138 := n4_; have GW138 := n5_; have GE138 := n6_; have NB134_138 := n7_; have NB138_134 := n8_; have NB135_138 := n9_; have NB138_135 := n10_; clear n0_ n1_ n2_ n3_ n4_ n5_ n6_ n7_ n8_ n9_ n10_; clear hb hbox hg; have hnb34 := NB138_134.out; have hnc34 := NB134_138.out; have hnb35 := NB138_135.out; have hnc35 := NB135_138.out; have hcz36_0 : w33.cell? ⟨gb138, 0, none⟩ = some (.string (⟨#[]⟩ : ByteArray)) := (blk_cell BK138.out 0).trans rfl; have hcz36_1 : w33.cell? ⟨gb138, 1, none⟩ = some (.int .i64 0) := (blk_cell BK138.out 1).trans rfl; have hcz36_2 : w33.cell? ⟨gb138, 2, none⟩ = some (.int .i64 0) := (blk_cell BK138.out 2).trans rfl; have hcz36_3 : w33.cell? ⟨gb138, 3, none⟩ = some (.int .i64 0) := (blk_cell BK138.out 3).trans rfl; have hcz36_4 : w33.cell? ⟨gb138, 4, none⟩ = some (.slice none 0 0) := (blk_cell BK138.out 4).trans rfl; have hfz36_0 := blk_frozen BK138.out 0; have hfz36_1 := blk_frozen BK138.out 1; have hfz36_2 := blk_frozen BK138.out 2; have hfz36_3 := blk_frozen BK138.out 3; have hfz36_4 := blk_frozen BK138.out 4)); go_upto_region 15 with (first | ((with_reducible refine gate_dst (N := 15) rfl ?_); (try (refine gate_guard (by rfl) ?_; dsimp only)); refine box_event ?hg (N := 15) ?hd (cs := #[.string (⟨#[]⟩ : ByteArray), .int .i64 0, .int .i64 0, .int .i64 0, .slice none 0 0]) (t := 29) ?hr ?_; (case hd => rfl); (case hg => rfl); (case hr => first | (go_simp; done) | (go_simp; rfl)); intro gb138 hg w33 hbox hb; have n0_ := Aside0.mk (Kd.R_below (by (with_reducible repeat (first | apply Kd.R_alloc | apply Kd.R_drewN | apply Kd.R_drew)); exact HO_9.out) hb); have n1_ := Aside0.mk (blk_below (g := gb134) (o := .cells #[.string ((rd_T29 l0 x46_2).f0), .int .i64 ((rd_T29 l0 x46_2).f1), .int .i64 ((rd_T29 l0 x46_2).f2), .int .i64 ((rd_T29 l0 x46_2).f3), .slice A133_4 ((rd_T29 l0 x46_2).f4).length c133_4] 29 (0, 0)) (by (with_reducible repeat (first | refine blk_drewN ?_ _ | refine blk_drew ?_ | refine blk_alloc ?_ _)); exact BK134.out) hb); have n2_ := Aside0.mk (blk_below (g := gb135) (o := .cells #[.string ((rd_T29 l0 x46_2).f0), .int .i64 x136001_3, .int .i64 x136002_3, .int .i64 x136003_3] 31 (0, 0)) (by (with_reducible repeat (first | refine blk_drewN ?_ _ | refine blk_drew ?_ | refine blk_alloc ?_ _)); exact BK135.out) hb); have n3_ := Aside0.mk (below_step (by repeat (first | (with_reducible first | exact HB.out | apply below_alloc | apply pw_below_drewN | apply below_drew1 | refine below_set ?_ GE134.out | refine below_set ?_ GE135.out) | exact HB.out)) hb); have n4_ := Aside0.mk (hbox); have n5_ := Aside0.mk ((by rw [hg]; exact (below_size (by repeat (first | (with_reducible first | exact HB.out | apply below_alloc | apply pw_below_drewN | apply below_drew1 | refine below_set ?_ GE134.out | refine below_set ?_ GE135.out) | exact HB.out))) : w.heap.size ≤ gb138)); have n6_ := Aside0.mk ((by rw [hg]; exact (below_size (by repeat (first | (with_reducible first | exact HB.out | apply below_alloc | apply pw_below_drewN | apply below_drew1 | refine below_set ?_ GE134.out | refine below_set ?_ GE135.out) | exact HB.out))) : w.heap.size ≤ gb138)); have n7_ := Aside0.mk ((by rw [hg]; exact Nat.ne_of_lt (blk_lt (g := gb134) (o := .cells #[.string ((rd_T29 l0 x46_2).f0), .int .i64 ((rd_T29 l0 x46_2).f1), .int .i64 ((rd_T29 l0 x46_2).f2), .int .i64 ((rd_T29 l0 x46_2).f3), .slice A133_4 ((rd_T29 l0 x46_2).f4).length c133_4] 29 (0, 0)) (by (with_reducible repeat (first | refine blk_drewN ?_ _ | refine blk_drew ?_ | refine blk_alloc ?_ _)); exact BK134.out)) : gb134 ≠ gb138)); have n8_ := Aside0.mk ((by rw [hg]; exact Nat.ne_of_gt (blk_lt (g := gb134) (o := .cells #[.string ((rd_T29 l0 x46_2).f0), .int .i64 ((rd_T29 l0 x46_2).f1), .int .i64 ((rd_T29 l0 x46_2).f2), .int .i64 ((rd_T29 l0 x46_2).f3), .slice A133_4 ((rd_T29 l0 x46_2).f4).length c133_4] 29 (0, 0)) (by (with_reducible repeat (first | refine blk_drewN ?_ _ | refine blk_drew ?_ | refine blk_alloc ?_ _)); exact BK134.out)) : gb138 ≠ gb134)); have n9_ := Aside0.mk ((by rw [hg]; exact Nat.ne_of_lt (blk_lt (g := gb135) (o := .cells #[.string ((rd_T29 l0 x46_2).f0), .int .i64 x136001_3, .int .i64 x136002_3, .int .i64 x136003_3] 31 (0, 0)) (by (with_reducible repeat (first | refine blk_drewN ?_ _ | refine blk_drew ?_ | refine blk_alloc ?_ _)); exact BK135.out)) : gb135 ≠ gb138)); have n10_ := Aside0.mk ((by rw [hg]; exact Nat.ne_of_gt (blk_lt (g := gb135) (o := .cells #[.string ((rd_T29 l0 x46_2).f0), .int .i64 x136001_3, .int .i64 x136002_3, .int .i64 x136003_3] 31 (0, 0)) (by (with_reducible repeat (first | refine blk_drewN ?_ _ | refine blk_drew ?_ | refine blk_alloc ?_ _)); exact BK135.out)) : gb138 ≠ gb135)); clear HO_9; clear BK134; clear BK135; clear HB; have HO_9 := n0_; have BK134 := n1_; have BK135 := n2_; have HB := n3_; have BK138 := n4_; have GW138 := n5_; have GE138 := n6_; have NB134_138 := n7_; have NB138_134 := n8_; have NB135_138 := n9_; have NB138_135 := n10_; clear n0_ n1_ n2_ n3_ n4_ n5_ n6_ n7_ n8_ n9_ n10_; clear hb hbox hg; have hnb34 := NB138_134.out; have hnc34 := NB134_138.out; have hnb35 := NB138_135.out; have hnc35 := NB135_138.out; have hcz36_0 : w33.cell? ⟨gb138, 0, none⟩ = some (.string (⟨#[]⟩ : ByteArray)) := (blk_cell BK138.out 0).trans rfl; have hcz36_1 : w33.cell? ⟨gb138, 1, none⟩ = some (.int .i64 0) := (blk_cell BK138.out 1).trans rfl; have hcz36_2 : w33.cell? ⟨gb138, 2, none⟩ = some (.int .i64 0) := (blk_cell BK138.out 2).trans rfl; have hcz36_3 : w33.cell? ⟨gb138, 3, none⟩ = some (.int .i64 0) := (blk_cell BK138.out 3).trans rfl; have hcz36_4 : w33.cell? ⟨gb138, 4, none⟩ = some (.slice none 0 0) := (blk_cell BK138.out 4).trans rfl; have hfz36_0 := blk_frozen BK138.out 0; have hfz36_1 := blk_frozen BK138.out 1; have hfz36_2 := blk_frozen BK138.out 2; have hfz36_3 := blk_frozen BK138.out 3; have hfz36_4 := blk_frozen BK138.out 4)))
                (try simp only [Act.put, List.setIfInBounds_toArray, List.set_cons_zero, List.set_cons_succ])
                go_cut [71] (fun v71 wc => ∃ (kq : Nat) (x71_31 : Bool), v71 = .bool x71_31 ∧ Aside0 (sumplaw42_UsageDoes.j3 kq l0 a1 a2 l3 t130 x10_2 l0 (l0.length : Int) x46_2 l0 (l0.length : Int) x58_3 x71_31 ((rd_T29 l0 x46_2).f0) ((rd_T29 l0 x46_2).f1) ((rd_T29 l0 x46_2).f2) ((rd_T29 l0 x46_2).f3) ((rd_T29 l0 x46_2).f4) ((rd_T29 l0 x46_2).f0) x136001_3 x136002_3 x136003_3 ((rd_T29 l0 x58_3).f0) ((rd_T29 l0 x58_3).f1) ((rd_T29 l0 x58_3).f2) ((rd_T29 l0 x58_3).f3) ((rd_T29 l0 x58_3).f4) = some r) ∧ Aside0 (kq ≤ k3) ∧ Aside0 (Kd.R k31 31 wc w.heap.size (fun k_ => k_ ≠ gb135) v131 t130) ∧ Aside0 (wc.heap[gb134]? = some (.cells #[.string ((rd_T29 l0 x46_2).f0), .int .i64 ((rd_T29 l0 x46_2).f1), .int .i64 ((rd_T29 l0 x46_2).f2), .int .i64 ((rd_T29 l0 x46_2).f3), (.slice A133_4 ((rd_T29 l0 x46_2).f4).length c133_4)] 29 (0, 0))) ∧ Aside0 (wc.heap[gb135]? = some (.cells #[.string ((rd_T29 l0 x46_2).f0), .int .i64 x136001_3, .int .i64 x136002_3, .int .i64 x136003_3] 31 (0, 0))) ∧ Aside0 (wc.heap[gb138]? = some (.cells #[.string ((rd_T29 l0 x58_3).f0), .int .i64 ((rd_T29 l0 x58_3).f1), .int .i64 ((rd_T29 l0 x58_3).f2), .int .i64 ((rd_T29 l0 x58_3).f3), (.slice A137_4 ((rd_T29 l0 x58_3).f4).length c137_4)] 29 (0, 0))) ∧ Aside0 (Below w.heap.size w wc))
                case first =>
                 have H := HC32.out
                 clear HC32
                 replace H := Option.bind_eq_some_iff.mp H
                 obtain ⟨t139, A370, H⟩ := H
                 replace H : (if t139 = true then (sumplaw42_UsageDoes.j3 k3 l0 a1 a2 l3 t130 x10_2 l0 (l0.length : Int) x46_2 l0 (l0.length : Int) x58_3 (((rd_T29 l0 x58_3).f2) == 1) ((rd_T29 l0 x46_2).f0) ((rd_T29 l0 x46_2).f1) ((rd_T29 l0 x46_2).f2) ((rd_T29 l0 x46_2).f3) ((rd_T29 l0 x46_2).f4) ((rd_T29 l0 x46_2).f0) x136001_3 x136002_3 x136003_3 ((rd_T29 l0 x58_3).f0) ((rd_T29 l0 x58_3).f1) ((rd_T29 l0 x58_3).f2) ((rd_T29 l0 x58_3).f3) ((rd_T29 l0 x58_3).f4)) else (sumplaw42_UsageDoes.j3 k3 l0 a1 a2 l3 t130 x10_2 l0 (l0.length : Int) x46_2 l0 (l0.length : Int) x58_3 false ((rd_T29 l0 x46_2).f0) ((rd_T29 l0 x46_2).f1) ((rd_T29 l0 x46_2).f2) ((rd_T29 l0 x46_2).f3) ((rd_T29 l0 x46_2).f4) ((rd_T29 l0 x46_2).f0) x136001_3 x136002_3 x136003_3 ((rd_T29 l0 x58_3).f0) ((rd_T29 l0 x58_3).f1) ((rd_T29 l0 x58_3).f2) ((rd_T29 l0 x58_3).f3) ((rd_T29 l0 x58_3).f4))) = some r := H
                 have A37 := Aside0.mk A370
                 clear A370
                 by_cases c38 : t139 = true
                 ·subst c38
                  have H1 : (sumplaw42_UsageDoes.j3 k3 l0 a1 a2 l3 t130 x10_2 l0 (l0.length : Int) x46_2 l0 (l0.length : Int) x58_3 (((rd_T29 l0 x58_3).f2) == 1) ((rd_T29 l0 x46_2).f0) ((rd_T29 l0 x46_2).f1) ((rd_T29 l0 x46_2).f2) ((rd_T29 l0 x46_2).f3) ((rd_T29 l0 x46_2).f4) ((rd_T29 l0 x46_2).f0) x136001_3 x136002_3 x136003_3 ((rd_T29 l0 x58_3).f0) ((rd_T29 l0 x58_3).f1) ((rd_T29 l0 x58_3).f2) ((rd_T29 l0 x58_3).f3) ((rd_T29 l0 x58_3).f4)) = some r := by rw [if_pos rfl] at H; exact H
                  clear H
                  have H := H1
                  clear H1
                  have H' := Aside0.mk H
                  clear H
                  have hnb39 := NB138_134.out
                  have hnc39 := NB134_138.out
                  have hnb40 := NB138_135.out
                  have hnc40 := NB135_138.out
                  have hcz41_0 : w33.cell? ⟨gb138, 0, none⟩ = some (.string (⟨#[]⟩ : ByteArray)) := (blk_cell BK138.out 0).trans rfl
                  have hcz41_1 : w33.cell? ⟨gb138, 1, none⟩ = some (.int .i64 0) := (blk_cell BK138.out 1).trans rfl
                  have hcz41_2 : w33.cell? ⟨gb138, 2, none⟩ = some (.int .i64 0) := (blk_cell BK138.out 2).trans rfl
                  have hcz41_3 : w33.cell? ⟨gb138, 3, none⟩ = some (.int .i64 0) := (blk_cell BK138.out 3).trans rfl
                  have hcz41_4 : w33.cell? ⟨gb138, 4, none⟩ = some (.slice none 0 0) := (blk_cell BK138.out 4).trans rfl
                  have hfz41_0 := blk_frozen BK138.out 0
                  have hfz41_1 := blk_frozen BK138.out 1
                  have hfz41_2 := blk_frozen BK138.out 2
                  have hfz41_3 := blk_frozen BK138.out 3
                  have hfz41_4 := blk_frozen BK138.out 4
                  have hnb42 := NB134_135.out
                  have hnc42 := NB135_134.out
                  have hcz43_0 : w33.cell? ⟨gb134, 0, none⟩ = some (.string ((rd_T29 l0 x46_2).f0)) := (blk_cell BK134.out 0).trans rfl
                  have hcz43_1 : w33.cell? ⟨gb134, 1, none⟩ = some (.int .i64 ((rd_T29 l0 x46_2).f1)) := (blk_cell BK134.out 1).trans rfl
                  have hcz43_2 : w33.cell? ⟨gb134, 2, none⟩ = some (.int .i64 ((rd_T29 l0 x46_2).f2)) := (blk_cell BK134.out 2).trans rfl
                  have hcz43_3 : w33.cell? ⟨gb134, 3, none⟩ = some (.int .i64 ((rd_T29 l0 x46_2).f3)) := (blk_cell BK134.out 3).trans rfl
                  have hcz43_4 : w33.cell? ⟨gb134, 4, none⟩ = some (.slice A133_4 ((rd_T29 l0 x46_2).f4).length c133_4) := (blk_cell BK134.out 4).trans rfl
                  have hfz43_0 := blk_frozen BK134.out 0
                  have hfz43_1 := blk_frozen BK134.out 1
                  have hfz43_2 := blk_frozen BK134.out 2
                  have hfz43_3 := blk_frozen BK134.out 3
                  have hfz43_4 := blk_frozen BK134.out 4
                  go_wp2_with (first | (go_at_call 11; (with_reducible refine (sumplaw42_below.calls ((rd_T29 l0 x58_3).f0) ((rd_T29 l0 x46_2).f0) true _ A37.out).mono ?_); rintro e w' ⟨rfl, ⟨nd, rfl⟩⟩; (try first | exact ⟨rfl, _, World.drewN_drewN _ _ _⟩ | exact ⟨rfl, _, Eq.trans (World.drewN_drewN _ _ _) (congrArg (World.drewN _) (Nat.add_assoc _ _ _))⟩)))
                  repeat (go_quiet (first | (go_at_call 11; (with_reducible refine (sumplaw42_below.calls ((rd_T29 l0 x58_3).f0) ((rd_T29 l0 x46_2).f0) true _ A37.out).mono ?_); rintro e w' ⟨rfl, ⟨nd, rfl⟩⟩; (try first | exact ⟨rfl, _, World.drewN_drewN _ _ _⟩ | exact ⟨rfl, _, Eq.trans (World.drewN_drewN _ _ _) (congrArg (World.drewN _) (Nat.add_assoc _ _ _))⟩))); try go_wp2_with (first | (go_at_call 11; (with_reducible refine (sumplaw42_below.calls ((rd_T29 l0 x58_3).f0) ((rd_T29 l0 x46_2).f0) true _ A37.out).mono ?_); rintro e w' ⟨rfl, ⟨nd, rfl⟩⟩; (try first | exact ⟨rfl, _, World.drewN_drewN _ _ _⟩ | exact ⟨rfl, _, Eq.trans (World.drewN_drewN _ _ _) (congrArg (World.drewN _) (Nat.add_assoc _ _ _))⟩))))
                  go_meet
                  case rel => exact ⟨_, ((((rd_T29 l0 x58_3).f2) == 1)), (by first | rfl | (simp; done) | (simp [*]; done)), H', ⟨by have := HJ6.out; have := HK2.out; have := HK3.out; first | omega | exact Nat.le_refl _⟩, ⟨by (with_reducible repeat (first | apply Kd.R_alloc | apply Kd.R_drewN | apply Kd.R_drew)); exact Kd.R_mono (Kd.R_far (p := ⟨gb138, 4, none⟩) (Kd.R_far (p := ⟨gb138, 3, none⟩) (Kd.R_far (p := ⟨gb138, 2, none⟩) (Kd.R_far (p := ⟨gb138, 1, none⟩) (Kd.R_far (p := ⟨gb138, 0, none⟩) (Kd.R_types HO_9.out BK138.out (by decide)) (fun _ hk => hk.2) (.string ((rd_T29 l0 x58_3).f0))) (fun _ hk => hk.2) (.int .i64 ((rd_T29 l0 x58_3).f1))) (fun _ hk => hk.2) (.int .i64 ((rd_T29 l0 x58_3).f2))) (fun _ hk => hk.2) (.int .i64 ((rd_T29 l0 x58_3).f3))) (fun _ hk => hk.2) (.slice A137_4 ((rd_T29 l0 x58_3).f4).length c137_4)) (fun _ hk => hk.1)⟩, ⟨by (with_reducible repeat (first | refine blk_drewN ?_ _ | refine blk_drew ?_ | refine blk_alloc ?_ _)); refine blk_far ?_ NB134_138.out _; (with_reducible repeat (first | refine blk_drewN ?_ _ | refine blk_drew ?_ | refine blk_alloc ?_ _)); refine blk_far ?_ NB134_138.out _; (with_reducible repeat (first | refine blk_drewN ?_ _ | refine blk_drew ?_ | refine blk_alloc ?_ _)); refine blk_far ?_ NB134_138.out _; (with_reducible repeat (first | refine blk_drewN ?_ _ | refine blk_drew ?_ | refine blk_alloc ?_ _)); refine blk_far ?_ NB134_138.out _; (with_reducible repeat (first | refine blk_drewN ?_ _ | refine blk_drew ?_ | refine blk_alloc ?_ _)); refine blk_far ?_ NB134_138.out _; (with_reducible repeat (first | refine blk_drewN ?_ _ | refine blk_drew ?_ | refine blk_alloc ?_ _)); exact BK134.out⟩, ⟨by (with_reducible repeat (first | refine blk_drewN ?_ _ | refine blk_drew ?_ | refine blk_alloc ?_ _)); refine blk_far ?_ NB135_138.out _; (with_reducible repeat (first | refine blk_drewN ?_ _ | refine blk_drew ?_ | refine blk_alloc ?_ _)); refine blk_far ?_ NB135_138.out _; (with_reducible repeat (first | refine blk_drewN ?_ _ | refine blk_drew ?_ | refine blk_alloc ?_ _)); refine blk_far ?_ NB135_138.out _; (with_reducible repeat (first | refine blk_drewN ?_ _ | refine blk_drew ?_ | refine blk_alloc ?_ _)); refine blk_far ?_ NB135_138.out _; (with_reducible repeat (first | refine blk_drewN ?_ _ | refine blk_drew ?_ | refine blk_alloc ?_ _)); refine blk_far ?_ NB135_138.out _; (with_reducible repeat (first | refine blk_drewN ?_ _ | refine blk_drew ?_ | refine blk_alloc ?_ _)); exact BK135.out⟩, ⟨by (with_reducible repeat (first | refine blk_drewN ?_ _ | refine blk_drew ?_ | refine blk_alloc ?_ _)); refine blk_put (cs := #[.string ((rd_T29 l0 x58_3).f0), .int .i64 ((rd_T29 l0 x58_3).f1), .int .i64 ((rd_T29 l0 x58_3).f2), .int .i64 ((rd_T29 l0 x58_3).f3), .slice none 0 0]) ?_ 4 _ rfl; (with_reducible repeat (first | refine blk_drewN ?_ _ | refine blk_drew ?_ | refine blk_alloc ?_ _)); refine blk_put (cs := #[.string ((rd_T29 l0 x58_3).f0), .int .i64 ((rd_T29 l0 x58_3).f1), .int .i64 ((rd_T29 l0 x58_3).f2), .int .i64 0, .slice none 0 0]) ?_ 3 _ rfl; (with_reducible repeat (first | refine blk_drewN ?_ _ | refine blk_drew ?_ | refine blk_alloc ?_ _)); refine blk_put (cs := #[.string ((rd_T29 l0 x58_3).f0), .int .i64 ((rd_T29 l0 x58_3).f1), .int .i64 0, .int .i64 0, .slice none 0 0]) ?_ 2 _ rfl; (with_reducible repeat (first | refine blk_drewN ?_ _ | refine blk_drew ?_ | refine blk_alloc ?_ _)); refine blk_put (cs := #[.string ((rd_T29 l0 x58_3).f0), .int .i64 0, .int .i64 0, .int .i64 0, .slice none 0 0]) ?_ 1 _ rfl; (with_reducible repeat (first | refine blk_drewN ?_ _ | refine blk_drew ?_ | refine blk_alloc ?_ _)); refine blk_put (cs := #[.string (⟨#[]⟩ : ByteArray), .int .i64 0, .int .i64 0, .int .i64 0, .slice none 0 0]) ?_ 0 _ rfl; (with_reducible repeat (first | refine blk_drewN ?_ _ | refine blk_drew ?_ | refine blk_alloc ?_ _)); exact BK138.out⟩, ⟨by repeat (first | (with_reducible first | exact HB.out | apply below_alloc | apply pw_below_drewN | apply below_drew1 | refine below_set ?_ GE134.out | refine below_set ?_ GE135.out | refine below_set ?_ GE138.out) | exact HB.out)⟩⟩
                 ·replace c38 := Bool.eq_false_iff.mpr c38
                  subst c38
                  have H1 : (sumplaw42_UsageDoes.j3 k3 l0 a1 a2 l3 t130 x10_2 l0 (l0.length : Int) x46_2 l0 (l0.length : Int) x58_3 false ((rd_T29 l0 x46_2).f0) ((rd_T29 l0 x46_2).f1) ((rd_T29 l0 x46_2).f2) ((rd_T29 l0 x46_2).f3) ((rd_T29 l0 x46_2).f4) ((rd_T29 l0 x46_2).f0) x136001_3 x136002_3 x136003_3 ((rd_T29 l0 x58_3).f0) ((rd_T29 l0 x58_3).f1) ((rd_T29 l0 x58_3).f2) ((rd_T29 l0 x58_3).f3) ((rd_T29 l0 x58_3).f4)) = some r := by rw [if_neg (show ¬ (false = true) by decide)] at H; exact H
                  clear H
                  have H := H1
                  clear H1
                  have H' := Aside0.mk H
                  clear H
                  have hnb44 := NB138_134.out
                  have hnc44 := NB134_138.out
                  have hnb45 := NB138_135.out
                  have hnc45 := NB135_138.out
                  have hcz46_0 : w33.cell? ⟨gb138, 0, none⟩ = some (.string (⟨#[]⟩ : ByteArray)) := (blk_cell BK138.out 0).trans rfl
                  have hcz46_1 : w33.cell? ⟨gb138, 1, none⟩ = some (.int .i64 0) := (blk_cell BK138.out 1).trans rfl
                  have hcz46_2 : w33.cell? ⟨gb138, 2, none⟩ = some (.int .i64 0) := (blk_cell BK138.out 2).trans rfl
                  have hcz46_3 : w33.cell? ⟨gb138, 3, none⟩ = some (.int .i64 0) := (blk_cell BK138.out 3).trans rfl
                  have hcz46_4 : w33.cell? ⟨gb138, 4, none⟩ = some (.slice none 0 0) := (blk_cell BK138.out 4).trans rfl
                  have hfz46_0 := blk_frozen BK138.out 0
                  have hfz46_1 := blk_frozen BK138.out 1
                  have hfz46_2 := blk_frozen BK138.out 2
                  have hfz46_3 := blk_frozen BK138.out 3
                  have hfz46_4 := blk_frozen BK138.out 4
                  have hnb47 := NB134_135.out
                  have hnc47 := NB135_134.out
                  have hcz48_0 : w33.cell? ⟨gb134, 0, none⟩ = some (.string ((rd_T29 l0 x46_2).f0)) := (blk_cell BK134.out 0).trans rfl
                  have hcz48_1 : w33.cell? ⟨gb134, 1, none⟩ = some (.int .i64 ((rd_T29 l0 x46_2).f1)) := (blk_cell BK134.out 1).trans rfl
                  have hcz48_2 : w33.cell? ⟨gb134, 2, none⟩ = some (.int .i64 ((rd_T29 l0 x46_2).f2)) := (blk_cell BK134.out 2).trans rfl
                  have hcz48_3 : w33.cell? ⟨gb134, 3, none⟩ = some (.int .i64 ((rd_T29 l0 x46_2).f3)) := (blk_cell BK134.out 3).trans rfl
                  have hcz48_4 : w33.cell? ⟨gb134, 4, none⟩ = some (.slice A133_4 ((rd_T29 l0 x46_2).f4).length c133_4) := (blk_cell BK134.out 4).trans rfl
                  have hfz48_0 := blk_frozen BK134.out 0
                  have hfz48_1 := blk_frozen BK134.out 1
                  have hfz48_2 := blk_frozen BK134.out 2
                  have hfz48_3 := blk_frozen BK134.out 3
                  have hfz48_4 := blk_frozen BK134.out 4
                  go_wp2_with (first | (go_at_call 11; (with_reducible refine (sumplaw42_below.calls ((rd_T29 l0 x58_3).f0) ((rd_T29 l0 x46_2).f0) false _ A37.out).mono ?_); rintro e w' ⟨rfl, ⟨nd, rfl⟩⟩; (try first | exact ⟨rfl, _, World.drewN_drewN _ _ _⟩ | exact ⟨rfl, _, Eq.trans (World.drewN_drewN _ _ _) (congrArg (World.drewN _) (Nat.add_assoc _ _ _))⟩)))
                  repeat (go_quiet (first | (go_at_call 11; (with_reducible refine (sumplaw42_below.calls ((rd_T29 l0 x58_3).f0) ((rd_T29 l0 x46_2).f0) false _ A37.out).mono ?_); rintro e w' ⟨rfl, ⟨nd, rfl⟩⟩; (try first | exact ⟨rfl, _, World.drewN_drewN _ _ _⟩ | exact ⟨rfl, _, Eq.trans (World.drewN_drewN _ _ _) (congrArg (World.drewN _) (Nat.add_assoc _ _ _))⟩))); try go_wp2_with (first | (go_at_call 11; (with_reducible refine (sumplaw42_below.calls ((rd_T29 l0 x58_3).f0) ((rd_T29 l0 x46_2).f0) false _ A37.out).mono ?_); rintro e w' ⟨rfl, ⟨nd, rfl⟩⟩; (try first | exact ⟨rfl, _, World.drewN_drewN _ _ _⟩ | exact ⟨rfl, _, Eq.trans (World.drewN_drewN _ _ _) (congrArg (World.drewN _) (Nat.add_assoc _ _ _))⟩))))
                  go_meet
                  case rel => exact ⟨_, (false), (by first | rfl | (simp; done) | (simp [*]; done)), H', ⟨by have := HJ6.out; have := HK2.out; have := HK3.out; first | omega | exact Nat.le_refl _⟩, ⟨by (with_reducible repeat (first | apply Kd.R_alloc | apply Kd.R_drewN | apply Kd.R_drew)); exact Kd.R_mono (Kd.R_far (p := ⟨gb138, 4, none⟩) (Kd.R_far (p := ⟨gb138, 3, none⟩) (Kd.R_far (p := ⟨gb138, 2, none⟩) (Kd.R_far (p := ⟨gb138, 1, none⟩) (Kd.R_far (p := ⟨gb138, 0, none⟩) (Kd.R_types HO_9.out BK138.out (by decide)) (fun _ hk => hk.2) (.string ((rd_T29 l0 x58_3).f0))) (fun _ hk => hk.2) (.int .i64 ((rd_T29 l0 x58_3).f1))) (fun _ hk => hk.2) (.int .i64 ((rd_T29 l0 x58_3).f2))) (fun _ hk => hk.2) (.int .i64 ((rd_T29 l0 x58_3).f3))) (fun _ hk => hk.2) (.slice A137_4 ((rd_T29 l0 x58_3).f4).length c137_4)) (fun _ hk => hk.1)⟩, ⟨by (with_reducible repeat (first | refine blk_drewN ?_ _ | refine blk_drew ?_ | refine blk_alloc ?_ _)); refine blk_far ?_ NB134_138.out _; (with_reducible repeat (first | refine blk_drewN ?_ _ | refine blk_drew ?_ | refine blk_alloc ?_ _)); refine blk_far ?_ NB134_138.out _; (with_reducible repeat (first | refine blk_drewN ?_ _ | refine blk_drew ?_ | refine blk_alloc ?_ _)); refine blk_far ?_ NB134_138.out _; (with_reducible repeat (first | refine blk_drewN ?_ _ | refine blk_drew ?_ | refine blk_alloc ?_ _)); refine blk_far ?_ NB134_138.out _; (with_reducible repeat (first | refine blk_drewN ?_ _ | refine blk_drew ?_ | refine blk_alloc ?_ _)); refine blk_far ?_ NB134_138.out _; (with_reducible repeat (first | refine blk_drewN ?_ _ | refine blk_drew ?_ | refine blk_alloc ?_ _)); exact BK134.out⟩, ⟨by (with_reducible repeat (first | refine blk_drewN ?_ _ | refine blk_drew ?_ | refine blk_alloc ?_ _)); refine blk_far ?_ NB135_138.out _; (with_reducible repeat (first | refine blk_drewN ?_ _ | refine blk_drew ?_ | refine blk_alloc ?_ _)); refine blk_far ?_ NB135_138.out _; (with_reducible repeat (first | refine blk_drewN ?_ _ | refine blk_drew ?_ | refine blk_alloc ?_ _)); refine blk_far ?_ NB135_138.out _; (with_reducible repeat (first | refine blk_drewN ?_ _ | refine blk_drew ?_ | refine blk_alloc ?_ _)); refine blk_far ?_ NB135_138.out _; (with_reducible repeat (first | refine blk_drewN ?_ _ | refine blk_drew ?_ | refine blk_alloc ?_ _)); refine blk_far ?_ NB135_138.out _; (with_reducible repeat (first | refine blk_drewN ?_ _ | refine blk_drew ?_ | refine blk_alloc ?_ _)); exact BK135.out⟩, ⟨by (with_reducible repeat (first | refine blk_drewN ?_ _ | refine blk_drew ?_ | refine blk_alloc ?_ _)); refine blk_put (cs := #[.string ((rd_T29 l0 x58_3).f0), .int .i64 ((rd_T29 l0 x58_3).f1), .int .i64 ((rd_T29 l0 x58_3).f2), .int .i64 ((rd_T29 l0 x58_3).f3), .slice none 0 0]) ?_ 4 _ rfl; (with_reducible repeat (first | refine blk_drewN ?_ _ | refine blk_drew ?_ | refine blk_alloc ?_ _)); refine blk_put (cs := #[.string ((rd_T29 l0 x58_3).f0), .int .i64 ((rd_T29 l0 x58_3).f1), .int .i64 ((rd_T29 l0 x58_3).f2), .int .i64 0, .slice none 0 0]) ?_ 3 _ rfl; (with_reducible repeat (first | refine blk_drewN ?_ _ | refine blk_drew ?_ | refine blk_alloc ?_ _)); refine blk_put (cs := #[.string ((rd_T29 l0 x58_3).f0), .int .i64 ((rd_T29 l0 x58_3).f1), .int .i64 0, .int .i64 0, .slice none 0 0]) ?_ 2 _ rfl; (with_reducible repeat (first | refine blk_drewN ?_ _ | refine blk_drew ?_ | refine blk_alloc ?_ _)); refine blk_put (cs := #[.string ((rd_T29 l0 x58_3).f0), .int .i64 0, .int .i64 0, .int .i64 0, .slice none 0 0]) ?_ 1 _ rfl; (with_reducible repeat (first | refine blk_drewN ?_ _ | refine blk_drew ?_ | refine blk_alloc ?_ _)); refine blk_put (cs := #[.string (⟨#[]⟩ : ByteArray), .int .i64 0, .int .i64 0, .int .i64 0, .slice none 0 0]) ?_ 0 _ rfl; (with_reducible repeat (first | refine blk_drewN ?_ _ | refine blk_drew ?_ | refine blk_alloc ?_ _)); exact BK138.out⟩, ⟨by repeat (first | (with_reducible first | exact HB.out | apply below_alloc | apply pw_below_drewN | apply below_drew1 | refine below_set ?_ GE134.out | refine below_set ?_ GE135.out | refine below_set ?_ GE138.out) | exact HB.out)⟩⟩
                case rest =>
                 clear HC32
                 try clear c1
                 try clear p1
                 try clear q1
                 try clear hx1
                 try clear c2
                 try clear p2
                 try clear c3
                 try clear c4
                 try clear c6
                 try clear c10
                 try clear c11
                 try clear c11b0
                 try clear c11b1
                 try clear c13
                 try clear c13b0
                 try clear c13b1
                 try clear p13
                 try clear q13
                 try clear hx13
                 try clear c17
                 try clear c20
                 try clear c20b0
                 try clear c21
                 try clear c21b0
                 try clear c22
                 try clear c22b0
                 try clear c23
                 try clear c23b0
                 try clear c23b1
                 try clear c27
                 try clear c29
                 try clear c29b0
                 try clear c30
                 try clear c30b0
                 try clear c31
                 try clear c31b0
                 try clear c34
                 try clear c35
                 try clear c38
                 try clear c39
                 try clear c40
                 try clear c42
                 try clear c44
                 try clear c45
                 try clear c47
                 try clear hcz25_0
                 try clear hcz25_1
                 try clear hcz25_2
                 try clear hcz25_3
                 try clear hcz25_4
                 try clear hcz28_0
                 try clear hcz28_1
                 try clear hcz28_2
                 try clear hcz28_3
                 try clear hcz36_0
                 try clear hcz36_1
                 try clear hcz36_2
                 try clear hcz36_3
                 try clear hcz36_4
                 try clear hcz41_0
                 try clear hcz41_1
                 try clear hcz41_2
                 try clear hcz41_3
                 try clear hcz41_4
                 try clear hcz43_0
                 try clear hcz43_1
                 try clear hcz43_2
                 try clear hcz43_3
                 try clear hcz43_4
                 try clear hcz46_0
                 try clear hcz46_1
                 try clear hcz46_2
                 try clear hcz46_3
                 try clear hcz46_4
                 try clear hcz48_0
                 try clear hcz48_1
                 try clear hcz48_2
                 try clear hcz48_3
                 try clear hcz48_4
                 try clear hfz25_0
                 try clear hfz25_1
                 try clear hfz25_2
                 try clear hfz25_3
                 try clear hfz25_4
                 try clear hfz28_0
                 try clear hfz28_1
                 try clear hfz28_2
                 try clear hfz28_3
                 try clear hfz36_0
                 try clear hfz36_1
                 try clear hfz36_2
                 try clear hfz36_3
                 try clear hfz36_4
                 try clear hfz41_0
                 try clear hfz41_1
                 try clear hfz41_2
                 try clear hfz41_3
                 try clear hfz41_4
                 try clear hfz43_0
                 try clear hfz43_1
                 try clear hfz43_2
                 try clear hfz43_3
                 try clear hfz43_4
                 try clear hfz46_0
                 try clear hfz46_1
                 try clear hfz46_2
                 try clear hfz46_3
                 try clear hfz46_4
                 try clear hfz48_0
                 try clear hfz48_1
                 try clear hfz48_2
                 try clear hfz48_3
                 try clear hfz48_4
                 try clear hx133_0
                 try clear hx133_1
                 try clear hx133_2
                 try clear hx133_3
                 try clear hx133_4
                 try clear hx137_0
                 try clear hx137_1
                 try clear hx137_2
                 try clear hx137_3
                 try clear hx137_4
                 try clear p1
                 try clear p13
                 try clear p133
                 try clear p137
                 try clear p2
                 try clear q1
                 try clear q13
                 try clear q133
                 try clear q137
                 obtain ⟨kq, x71_31, rfl, HA, HJ31, HO_9, BK134, BK135, BK138, HB⟩ := hcut
                 cases kq with
                 | zero => exact absurd HA.out (by simp [sumplaw42_UsageDoes.j3])
                 | succ kj31 =>
                  have H := HA.out
                  clear HA
                  simp only [sumplaw42_UsageDoes.j3] at H
                  by_cases c49 : x71_31 = true
                  ·subst c49
                   have H1 : (if ((rd_T29 l0 x58_3).f3) > 0 then (sumplaw42_UsageDoes.j4 kj31 l0 a1 a2 l3 t130 x10_2 l0 (l0.length : Int) x46_2 l0 (l0.length : Int) x58_3 (decide (((rd_T29 l0 x58_3).f3) ≤ 1099511627776)) ((rd_T29 l0 x46_2).f0) ((rd_T29 l0 x46_2).f1) ((rd_T29 l0 x46_2).f2) ((rd_T29 l0 x46_2).f3) ((rd_T29 l0 x46_2).f4) ((rd_T29 l0 x46_2).f0) (wrap64 (x136001_3 + 1)) x136002_3 x136003_3 ((rd_T29 l0 x58_3).f0) ((rd_T29 l0 x58_3).f1) ((rd_T29 l0 x58_3).f2) ((rd_T29 l0 x58_3).f3) ((rd_T29 l0 x58_3).f4)) else (sumplaw42_UsageDoes.j4 kj31 l0 a1 a2 l3 t130 x10_2 l0 (l0.length : Int) x46_2 l0 (l0.length : Int) x58_3 false ((rd_T29 l0 x46_2).f0) ((rd_T29 l0 x46_2).f1) ((rd_T29 l0 x46_2).f2) ((rd_T29 l0 x46_2).f3) ((rd_T29 l0 x46_2).f4) ((rd_T29 l0 x46_2).f0) (wrap64 (x136001_3 + 1)) x136002_3 x136003_3 ((rd_T29 l0 x58_3).f0) ((rd_T29 l0 x58_3).f1) ((rd_T29 l0 x58_3).f2) ((rd_T29 l0 x58_3).f3) ((rd_T29 l0 x58_3).f4))) = some r := by rw [if_pos rfl] at H; exact H
                   clear H
                   have H := H1
                   clear H1
                   have HC50 := Aside0.mk H
                   clear H
                   have hnb51 := NB135_134.out
                   have hnc51 := NB134_135.out
                   have hnb52 := NB135_138.out
                   have hnc52 := NB138_135.out
                   have hcz53_0 : wc.cell? ⟨gb135, 0, none⟩ = some (.string ((rd_T29 l0 x46_2).f0)) := (blk_cell BK135.out 0).trans rfl
                   have hcz53_1 : wc.cell? ⟨gb135, 1, none⟩ = some (.int .i64 x136001_3) := (blk_cell BK135.out 1).trans rfl
                   have hcz53_2 : wc.cell? ⟨gb135, 2, none⟩ = some (.int .i64 x136002_3) := (blk_cell BK135.out 2).trans rfl
                   have hcz53_3 : wc.cell? ⟨gb135, 3, none⟩ = some (.int .i64 x136003_3) := (blk_cell BK135.out 3).trans rfl
                   have hfz53_0 := blk_frozen BK135.out 0
                   have hfz53_1 := blk_frozen BK135.out 1
                   have hfz53_2 := blk_frozen BK135.out 2
                   have hfz53_3 := blk_frozen BK135.out 3
                   go_upto_region 17 with (fail)
                   repeat (go_quiet (fail); go_upto_region 17 with (fail))
                   go_cut [83] (fun v83 wc => ∃ (kq : Nat) (x83_49 : Bool), v83 = .bool x83_49 ∧ Aside0 (sumplaw42_UsageDoes.j4 kq l0 a1 a2 l3 t130 x10_2 l0 (l0.length : Int) x46_2 l0 (l0.length : Int) x58_3 x83_49 ((rd_T29 l0 x46_2).f0) ((rd_T29 l0 x46_2).f1) ((rd_T29 l0 x46_2).f2) ((rd_T29 l0 x46_2).f3) ((rd_T29 l0 x46_2).f4) ((rd_T29 l0 x46_2).f0) (wrap64 (x136001_3 + 1)) x136002_3 x136003_3 ((rd_T29 l0 x58_3).f0) ((rd_T29 l0 x58_3).f1) ((rd_T29 l0 x58_3).f2) ((rd_T29 l0 x58_3).f3) ((rd_T29 l0 x58_3).f4) = some r) ∧ Aside0 (kq ≤ kj31) ∧ Aside0 (Kd.R k31 31 wc w.heap.size (fun k_ => k_ ≠ gb135) v131 t130) ∧ Aside0 (wc.heap[gb134]? = some (.cells #[.string ((rd_T29 l0 x46_2).f0), .int .i64 ((rd_T29 l0 x46_2).f1), .int .i64 ((rd_T29 l0 x46_2).f2), .int .i64 ((rd_T29 l0 x46_2).f3), (.slice A133_4 ((rd_T29 l0 x46_2).f4).length c133_4)] 29 (0, 0))) ∧ Aside0 (wc.heap[gb135]? = some (.cells #[.string ((rd_T29 l0 x46_2).f0), .int .i64 (wrap64 (x136001_3 + 1)), .int .i64 x136002_3, .int .i64 x136003_3] 31 (0, 0))) ∧ Aside0 (wc.heap[gb138]? = some (.cells #[.string ((rd_T29 l0 x58_3).f0), .int .i64 ((rd_T29 l0 x58_3).f1), .int .i64 ((rd_T29 l0 x58_3).f2), .int .i64 ((rd_T29 l0 x58_3).f3), (.slice A137_4 ((rd_T29 l0 x58_3).f4).length c137_4)] 29 (0, 0))) ∧ Aside0 (Below w.heap.size w wc))
                   case first =>
                    have H := HC50.out
                    clear HC50
                    by_cases c54 : ((rd_T29 l0 x58_3).f3) > 0
                    ·rw [if_pos c54] at H
                     have c54b0 : decide (0 < ((rd_T29 l0 x58_3).f3)) = true := decide_eq_true c54
                     clear c54
                     (first | rw [c54b0] | (simp only [i64_w, i32_w]; rw [c54b0]) | skip)
                     have H' := Aside0.mk H
                     clear H
                     have hnb55 := NB138_134.out
                     have hnc55 := NB134_138.out
                     have hnb56 := NB138_135.out
                     have hnc56 := NB135_138.out
                     have hcz57_0 : wc.cell? ⟨gb138, 0, none⟩ = some (.string ((rd_T29 l0 x58_3).f0)) := (blk_cell BK138.out 0).trans rfl
                     have hcz57_1 : wc.cell? ⟨gb138, 1, none⟩ = some (.int .i64 ((rd_T29 l0 x58_3).f1)) := (blk_cell BK138.out 1).trans rfl
                     have hcz57_2 : wc.cell? ⟨gb138, 2, none⟩ = some (.int .i64 ((rd_T29 l0 x58_3).f2)) := (blk_cell BK138.out 2).trans rfl
                     have hcz57_3 : wc.cell? ⟨gb138, 3, none⟩ = some (.int .i64 ((rd_T29 l0 x58_3).f3)) := (blk_cell BK138.out 3).trans rfl
                     have hcz57_4 : wc.cell? ⟨gb138, 4, none⟩ = some (.slice A137_4 ((rd_T29 l0 x58_3).f4).length c137_4) := (blk_cell BK138.out 4).trans rfl
                     have hfz57_0 := blk_frozen BK138.out 0
                     have hfz57_1 := blk_frozen BK138.out 1
                     have hfz57_2 := blk_frozen BK138.out 2
                     have hfz57_3 := blk_frozen BK138.out 3
                     have hfz57_4 := blk_frozen BK138.out 4
                     go_wp2
                     repeat (go_quiet (fail); try go_wp2)
                     go_meet
                     case rel => exact ⟨_, (decide (((rd_T29 l0 x58_3).f3) ≤ 1099511627776)), (by first | rfl | (simp; done) | (simp [*]; done)), H', ⟨by have := HJ6.out; have := HK2.out; have := HK3.out; have := HJ31.out; first | omega | exact Nat.le_refl _⟩, ⟨by (with_reducible repeat (first | apply Kd.R_alloc | apply Kd.R_drewN | apply Kd.R_drew)); exact Kd.R_mono (Kd.R_far (p := ⟨gb135, 1, none⟩) (Kd.R_mono HO_9.out (fun k_ hk => (⟨hk, hk⟩ : _ ∧ k_ ≠ gb135))) (fun _ hk => hk.2) (.int .i64 (wrap64 (x136001_3 + 1)))) (fun _ hk => hk.1)⟩, ⟨by (with_reducible repeat (first | refine blk_drewN ?_ _ | refine blk_drew ?_ | refine blk_alloc ?_ _)); refine blk_far ?_ NB134_135.out _; (with_reducible repeat (first | refine blk_drewN ?_ _ | refine blk_drew ?_ | refine blk_alloc ?_ _)); exact BK134.out⟩, ⟨by (with_reducible repeat (first | refine blk_drewN ?_ _ | refine blk_drew ?_ | refine blk_alloc ?_ _)); refine blk_put (cs := #[.string ((rd_T29 l0 x46_2).f0), .int .i64 x136001_3, .int .i64 x136002_3, .int .i64 x136003_3]) ?_ 1 _ rfl; (with_reducible repeat (first | refine blk_drewN ?_ _ | refine blk_drew ?_ | refine blk_alloc ?_ _)); exact BK135.out⟩, ⟨by (with_reducible repeat (first | refine blk_drewN ?_ _ | refine blk_drew ?_ | refine blk_alloc ?_ _)); refine blk_far ?_ NB138_135.out _; (with_reducible repeat (first | refine blk_drewN ?_ _ | refine blk_drew ?_ | refine blk_alloc ?_ _)); exact BK138.out⟩, ⟨by repeat (first | (with_reducible first | exact HB.out | apply below_alloc | apply pw_below_drewN | apply below_drew1 | refine below_set ?_ GE134.out | refine below_set ?_ GE135.out | refine below_set ?_ GE138.out) | exact HB.out)⟩⟩
                    ·rw [if_neg c54] at H
                     have c54b0 : decide (0 < ((rd_T29 l0 x58_3).f3)) = false := decide_eq_false c54
                     clear c54
                     (first | rw [c54b0] | (simp only [i64_w, i32_w]; rw [c54b0]) | skip)
                     have H' := Aside0.mk H
                     clear H
                     have hnb58 := NB138_134.out
                     have hnc58 := NB134_138.out
                     have hnb59 := NB138_135.out
                     have hnc59 := NB135_138.out
                     have hcz60_0 : wc.cell? ⟨gb138, 0, none⟩ = some (.string ((rd_T29 l0 x58_3).f0)) := (blk_cell BK138.out 0).trans rfl
                     have hcz60_1 : wc.cell? ⟨gb138, 1, none⟩ = some (.int .i64 ((rd_T29 l0 x58_3).f1)) := (blk_cell BK138.out 1).trans rfl
                     have hcz60_2 : wc.cell? ⟨gb138, 2, none⟩ = some (.int .i64 ((rd_T29 l0 x58_3).f2)) := (blk_cell BK138.out 2).trans rfl
                     have hcz60_3 : wc.cell? ⟨gb138, 3, none⟩ = some (.int .i64 ((rd_T29 l0 x58_3).f3)) := (blk_cell BK138.out 3).trans rfl
                     have hcz60_4 : wc.cell? ⟨gb138, 4, none⟩ = some (.slice A137_4 ((rd_T29 l0 x58_3).f4).length c137_4) := (blk_cell BK138.out 4).trans rfl
                     have hfz60_0 := blk_frozen BK138.out 0
                     have hfz60_1 := blk_frozen BK138.out 1
                     have hfz60_2 := blk_frozen BK138.out 2
                     have hfz60_3 := blk_frozen BK138.out 3
                     have hfz60_4 := blk_frozen BK138.out 4
                     go_wp2
                     repeat (go_quiet (fail); try go_wp2)
                     go_meet
                     case rel => exact ⟨_, (false), (by first | rfl | (simp; done) | (simp [*]; done)), H', ⟨by have := HJ6.out; have := HK2.out; have := HK3.out; have := HJ31.out; first | omega | exact Nat.le_refl _⟩, ⟨by (with_reducible repeat (first | apply Kd.R_alloc | apply Kd.R_drewN | apply Kd.R_drew)); exact Kd.R_mono (Kd.R_far (p := ⟨gb135, 1, none⟩) (Kd.R_mono HO_9.out (fun k_ hk => (⟨hk, hk⟩ : _ ∧ k_ ≠ gb135))) (fun _ hk => hk.2) (.int .i64 (wrap64 (x136001_3 + 1)))) (fun _ hk => hk.1)⟩, ⟨by (with_reducible repeat (first | refine blk_drewN ?_ _ | refine blk_drew ?_ | refine blk_alloc ?_ _)); refine blk_far ?_ NB134_135.out _; (with_reducible repeat (first | refine blk_drewN ?_ _ | refine blk_drew ?_ | refine blk_alloc ?_ _)); exact BK134.out⟩, ⟨by (with_reducible repeat (first | refine blk_drewN ?_ _ | refine blk_drew ?_ | refine blk_alloc ?_ _)); refine blk_put (cs := #[.string ((rd_T29 l0 x46_2).f0), .int .i64 x136001_3, .int .i64 x136002_3, .int .i64 x136003_3]) ?_ 1 _ rfl; (with_reducible repeat (first | refine blk_drewN ?_ _ | refine blk_drew ?_ | refine blk_alloc ?_ _)); exact BK135.out⟩, ⟨by (with_reducible repeat (first | refine blk_drewN ?_ _ | refine blk_drew ?_ | refine blk_alloc ?_ _)); refine blk_far ?_ NB138_135.out _; (with_reducible repeat (first | refine blk_drewN ?_ _ | refine blk_drew ?_ | refine blk_alloc ?_ _)); exact BK138.out⟩, ⟨by repeat (first | (with_reducible first | exact HB.out | apply below_alloc | apply pw_below_drewN | apply below_drew1 | refine below_set ?_ GE134.out | refine below_set ?_ GE135.out | refine below_set ?_ GE138.out) | exact HB.out)⟩⟩
                   case rest =>
                    clear HC50
                    try clear c1
                    try clear p1
                    try clear q1
                    try clear hx1
                    try clear c2
                    try clear p2
                    try clear c3
                    try clear c4
                    try clear c5
                    try clear c6
                    try clear p6
                    try clear c10
                    try clear c11
                    try clear c11b0
                    try clear c11b1
                    try clear c13
                    try clear c13b0
                    try clear c13b1
                    try clear p13
                    try clear q13
                    try clear hx13
                    try clear c17
                    try clear c20
                    try clear c20b0
                    try clear c21
                    try clear c21b0
                    try clear c22
                    try clear c22b0
                    try clear c23
                    try clear c23b0
                    try clear c23b1
                    try clear c27
                    try clear c29
                    try clear c29b0
                    try clear c30
                    try clear c30b0
                    try clear c31
                    try clear c31b0
                    try clear c34
                    try clear c35
                    try clear c38
                    try clear c39
                    try clear c40
                    try clear c42
                    try clear c44
                    try clear c45
                    try clear c47
                    try clear c49
                    try clear c51
                    try clear c52
                    try clear c54
                    try clear c54b0
                    try clear c55
                    try clear c56
                    try clear c58
                    try clear c59
                    try clear hcz25_0
                    try clear hcz25_1
                    try clear hcz25_2
                    try clear hcz25_3
                    try clear hcz25_4
                    try clear hcz28_0
                    try clear hcz28_1
                    try clear hcz28_2
                    try clear hcz28_3
                    try clear hcz36_0
                    try clear hcz36_1
                    try clear hcz36_2
                    try clear hcz36_3
                    try clear hcz36_4
                    try clear hcz41_0
                    try clear hcz41_1
                    try clear hcz41_2
                    try clear hcz41_3
                    try clear hcz41_4
                    try clear hcz43_0
                    try clear hcz43_1
                    try clear hcz43_2
                    try clear hcz43_3
                    try clear hcz43_4
                    try clear hcz46_0
                    try clear hcz46_1
                    try clear hcz46_2
                    try clear hcz46_3
                    try clear hcz46_4
                    try clear hcz48_0
                    try clear hcz48_1
                    try clear hcz48_2
                    try clear hcz48_3
                    try clear hcz48_4
                    try clear hcz53_0
                    try clear hcz53_1
                    try clear hcz53_2
                    try clear hcz53_3
                    try clear hcz57_0
                    try clear hcz57_1
                    try clear hcz57_2
                    try clear hcz57_3
                    try clear hcz57_4
                    try clear hcz60_0
                    try clear hcz60_1
                    try clear hcz60_2
                    try clear hcz60_3
                    try clear hcz60_4
                    try clear hfz25_0
                    try clear hfz25_1
                    try clear hfz25_2
                    try clear hfz25_3
                    try clear hfz25_4
                    try clear hfz28_0
                    try clear hfz28_1
                    try clear hfz28_2
                    try clear hfz28_3
                    try clear hfz36_0
                    try clear hfz36_1
                    try clear hfz36_2
                    try clear hfz36_3
                    try clear hfz36_4
                    try clear hfz41_0
                    try clear hfz41_1
                    try clear hfz41_2
                    try clear hfz41_3
                    try clear hfz41_4
                    try clear hfz43_0
                    try clear hfz43_1
                    try clear hfz43_2
                    try clear hfz43_3
                    try clear hfz43_4
                    try clear hfz46_0
                    try clear hfz46_1
                    try clear hfz46_2
                    try clear hfz46_3
                    try clear hfz46_4
                    try clear hfz48_0
                    try clear hfz48_1
                    try clear hfz48_2
                    try clear hfz48_3
                    try clear hfz48_4
                    try clear hfz53_0
                    try clear hfz53_1
                    try clear hfz53_2
                    try clear hfz53_3
                    try clear hfz57_0
                    try clear hfz57_1
                    try clear hfz57_2
                    try clear hfz57_3
                    try clear hfz57_4
                    try clear hfz60_0
                    try clear hfz60_1
                    try clear hfz60_2
                    try clear hfz60_3
                    try clear hfz60_4
                    try clear hx133_0
                    try clear hx133_1
                    try clear hx133_2
                    try clear hx133_3
                    try clear hx133_4
                    try clear hx137_0
                    try clear hx137_1
                    try clear hx137_2
                    try clear hx137_3
                    try clear hx137_4
                    try clear p1
                    try clear p13
                    try clear p133
                    try clear p137
                    try clear p2
                    try clear q1
                    try clear q13
                    try clear q133
                    try clear q137
                    obtain ⟨kq, x83_49, rfl, HA, HJ49, HO_9, BK134, BK135, BK138, HB⟩ := hcut
                    cases kq with
                    | zero => exact absurd HA.out (by simp [sumplaw42_UsageDoes.j4])
                    | succ kj49 =>
                     have H := HA.out
                     clear HA
                     simp only [sumplaw42_UsageDoes.j4] at H
                     by_cases c61 : x83_49 = true
                     ·subst c61
                      have H1 : ((sumplaw42_below.f ((rd_T29 l0 x58_3).f0) ((rd_T29 l0 x46_2).f0)).bind fun t140 => (if t140 = true then (if ((rd_T29 l0 x58_3).f2) = 2 then (sumplaw42_UsageDoes.l1 kj49 l0 a1 a2 l3 t130 x10_2 l0 (l0.length : Int) x46_2 l0 (l0.length : Int) (wrap64 (x58_3 + 1)) ((rd_T29 l0 x46_2).f0) ((rd_T29 l0 x46_2).f1) ((rd_T29 l0 x46_2).f2) ((rd_T29 l0 x46_2).f3) ((rd_T29 l0 x46_2).f4) ((rd_T29 l0 x46_2).f0) (wrap64 (x136001_3 + 1)) (wrap64 (x136002_3 + 1)) (wrap64 (x136003_3 + ((rd_T29 l0 x58_3).f3)))) else (sumplaw42_UsageDoes.l1 kj49 l0 a1 a2 l3 t130 x10_2 l0 (l0.length : Int) x46_2 l0 (l0.length : Int) (wrap64 (x58_3 + 1)) ((rd_T29 l0 x46_2).f0) ((rd_T29 l0 x46_2).f1) ((rd_T29 l0 x46_2).f2) ((rd_T29 l0 x46_2).f3) ((rd_T29 l0 x46_2).f4) ((rd_T29 l0 x46_2).f0) (wrap64 (x136001_3 + 1)) x136002_3 (wrap64 (x136003_3 + ((rd_T29 l0 x58_3).f3))))) else (sumplaw42_UsageDoes.l1 kj49 l0 a1 a2 l3 t130 x10_2 l0 (l0.length : Int) x46_2 l0 (l0.length : Int) (wrap64 (x58_3 + 1)) ((rd_T29 l0 x46_2).f0) ((rd_T29 l0 x46_2).f1) ((rd_T29 l0 x46_2).f2) ((rd_T29 l0 x46_2).f3) ((rd_T29 l0 x46_2).f4) ((rd_T29 l0 x46_2).f0) (wrap64 (x136001_3 + 1)) x136002_3 (wrap64 (x136003_3 + ((rd_T29 l0 x58_3).f3)))))) = some r := by rw [if_pos rfl] at H; exact H
                      clear H
                      have H := H1
                      clear H1
                      replace H := Option.bind_eq_some_iff.mp H
                      obtain ⟨t140, A620, H⟩ := H
                      replace H : (if t140 = true then (if ((rd_T29 l0 x58_3).f2) = 2 then (sumplaw42_UsageDoes.l1 kj49 l0 a1 a2 l3 t130 x10_2 l0 (l0.length : Int) x46_2 l0 (l0.length : Int) (wrap64 (x58_3 + 1)) ((rd_T29 l0 x46_2).f0) ((rd_T29 l0 x46_2).f1) ((rd_T29 l0 x46_2).f2) ((rd_T29 l0 x46_2).f3) ((rd_T29 l0 x46_2).f4) ((rd_T29 l0 x46_2).f0) (wrap64 (x136001_3 + 1)) (wrap64 (x136002_3 + 1)) (wrap64 (x136003_3 + ((rd_T29 l0 x58_3).f3)))) else (sumplaw42_UsageDoes.l1 kj49 l0 a1 a2 l3 t130 x10_2 l0 (l0.length : Int) x46_2 l0 (l0.length : Int) (wrap64 (x58_3 + 1)) ((rd_T29 l0 x46_2).f0) ((rd_T29 l0 x46_2).f1) ((rd_T29 l0 x46_2).f2) ((rd_T29 l0 x46_2).f3) ((rd_T29 l0 x46_2).f4) ((rd_T29 l0 x46_2).f0) (wrap64 (x136001_3 + 1)) x136002_3 (wrap64 (x136003_3 + ((rd_T29 l0 x58_3).f3))))) else (sumplaw42_UsageDoes.l1 kj49 l0 a1 a2 l3 t130 x10_2 l0 (l0.length : Int) x46_2 l0 (l0.length : Int) (wrap64 (x58_3 + 1)) ((rd_T29 l0 x46_2).f0) ((rd_T29 l0 x46_2).f1) ((rd_T29 l0 x46_2).f2) ((rd_T29 l0 x46_2).f3) ((rd_T29 l0 x46_2).f4) ((rd_T29 l0 x46_2).f0) (wrap64 (x136001_3 + 1)) x136002_3 (wrap64 (x136003_3 + ((rd_T29 l0 x58_3).f3))))) = some r := H
                      have A62 := Aside0.mk A620
                      clear A620
                      by_cases c63 : t140 = true
                      ·subst c63
                       have H1 : (if ((rd_T29 l0 x58_3).f2) = 2 then (sumplaw42_UsageDoes.l1 kj49 l0 a1 a2 l3 t130 x10_2 l0 (l0.length : Int) x46_2 l0 (l0.length : Int) (wrap64 (x58_3 + 1)) ((rd_T29 l0 x46_2).f0) ((rd_T29 l0 x46_2).f1) ((rd_T29 l0 x46_2).f2) ((rd_T29 l0 x46_2).f3) ((rd_T29 l0 x46_2).f4) ((rd_T29 l0 x46_2).f0) (wrap64 (x136001_3 + 1)) (wrap64 (x136002_3 + 1)) (wrap64 (x136003_3 + ((rd_T29 l0 x58_3).f3)))) else (sumplaw42_UsageDoes.l1 kj49 l0 a1 a2 l3 t130 x10_2 l0 (l0.length : Int) x46_2 l0 (l0.length : Int) (wrap64 (x58_3 + 1)) ((rd_T29 l0 x46_2).f0) ((rd_T29 l0 x46_2).f1) ((rd_T29 l0 x46_2).f2) ((rd_T29 l0 x46_2).f3) ((rd_T29 l0 x46_2).f4) ((rd_T29 l0 x46_2).f0) (wrap64 (x136001_3 + 1)) x136002_3 (wrap64 (x136003_3 + ((rd_T29 l0 x58_3).f3))))) = some r := by rw [if_pos rfl] at H; exact H
                       clear H
                       have H := H1
                       clear H1
                       by_cases c64 : ((rd_T29 l0 x58_3).f2) = 2
                       ·rw [if_pos c64] at H
                        have c64b0 : (((rd_T29 l0 x58_3).f2) == 2) = true := beq_iff_eq.mpr c64
                        have c64b1 : (((rd_T29 l0 x58_3).f2) != 2) = false := bne_eq_false_iff_eq.mpr c64
                        clear c64
                        have H' := Aside0.mk H
                        clear H
                        have hnb65 := NB135_134.out
                        have hnc65 := NB134_135.out
                        have hnb66 := NB135_138.out
                        have hnc66 := NB138_135.out
                        have hcz67_0 : wc.cell? ⟨gb135, 0, none⟩ = some (.string ((rd_T29 l0 x46_2).f0)) := (blk_cell BK135.out 0).trans rfl
                        have hcz67_1 : wc.cell? ⟨gb135, 1, none⟩ = some (.int .i64 (wrap64 (x136001_3 + 1))) := (blk_cell BK135.out 1).trans rfl
                        have hcz67_2 : wc.cell? ⟨gb135, 2, none⟩ = some (.int .i64 x136002_3) := (blk_cell BK135.out 2).trans rfl
                        have hcz67_3 : wc.cell? ⟨gb135, 3, none⟩ = some (.int .i64 x136003_3) := (blk_cell BK135.out 3).trans rfl
                        have hfz67_0 := blk_frozen BK135.out 0
                        have hfz67_1 := blk_frozen BK135.out 1
                        have hfz67_2 := blk_frozen BK135.out 2
                        have hfz67_3 := blk_frozen BK135.out 3
                        have hnb68 := NB138_134.out
                        have hnc68 := NB134_138.out
                        have hcz69_0 : wc.cell? ⟨gb138, 0, none⟩ = some (.string ((rd_T29 l0 x58_3).f0)) := (blk_cell BK138.out 0).trans rfl
                        have hcz69_1 : wc.cell? ⟨gb138, 1, none⟩ = some (.int .i64 ((rd_T29 l0 x58_3).f1)) := (blk_cell BK138.out 1).trans rfl
                        have hcz69_2 : wc.cell? ⟨gb138, 2, none⟩ = some (.int .i64 ((rd_T29 l0 x58_3).f2)) := (blk_cell BK138.out 2).trans rfl
                        have hcz69_3 : wc.cell? ⟨gb138, 3, none⟩ = some (.int .i64 ((rd_T29 l0 x58_3).f3)) := (blk_cell BK138.out 3).trans rfl
                        have hcz69_4 : wc.cell? ⟨gb138, 4, none⟩ = some (.slice A137_4 ((rd_T29 l0 x58_3).f4).length c137_4) := (blk_cell BK138.out 4).trans rfl
                        have hfz69_0 := blk_frozen BK138.out 0
                        have hfz69_1 := blk_frozen BK138.out 1
                        have hfz69_2 := blk_frozen BK138.out 2
                        have hfz69_3 := blk_frozen BK138.out 3
                        have hfz69_4 := blk_frozen BK138.out 4
                        have hcz70_0 : wc.cell? ⟨gb134, 0, none⟩ = some (.string ((rd_T29 l0 x46_2).f0)) := (blk_cell BK134.out 0).trans rfl
                        have hcz70_1 : wc.cell? ⟨gb134, 1, none⟩ = some (.int .i64 ((rd_T29 l0 x46_2).f1)) := (blk_cell BK134.out 1).trans rfl
                        have hcz70_2 : wc.cell? ⟨gb134, 2, none⟩ = some (.int .i64 ((rd_T29 l0 x46_2).f2)) := (blk_cell BK134.out 2).trans rfl
                        have hcz70_3 : wc.cell? ⟨gb134, 3, none⟩ = some (.int .i64 ((rd_T29 l0 x46_2).f3)) := (blk_cell BK134.out 3).trans rfl
                        have hcz70_4 : wc.cell? ⟨gb134, 4, none⟩ = some (.slice A133_4 ((rd_T29 l0 x46_2).f4).length c133_4) := (blk_cell BK134.out 4).trans rfl
                        have hfz70_0 := blk_frozen BK134.out 0
                        have hfz70_1 := blk_frozen BK134.out 1
                        have hfz70_2 := blk_frozen BK134.out 2
                        have hfz70_3 := blk_frozen BK134.out 3
                        have hfz70_4 := blk_frozen BK134.out 4
                        go_wp2_with (first | (go_at_call 11; (with_reducible refine (sumplaw42_below.calls ((rd_T29 l0 x58_3).f0) ((rd_T29 l0 x46_2).f0) true _ A62.out).mono ?_); rintro e w' ⟨rfl, ⟨nd, rfl⟩⟩; (try first | exact ⟨rfl, _, World.drewN_drewN _ _ _⟩ | exact ⟨rfl, _, Eq.trans (World.drewN_drewN _ _ _) (congrArg (World.drewN _) (Nat.add_assoc _ _ _))⟩)))
                        repeat (go_quiet (first | (go_at_call 11; (with_reducible refine (sumplaw42_below.calls ((rd_T29 l0 x58_3).f0) ((rd_T29 l0 x46_2).f0) true _ A62.out).mono ?_); rintro e w' ⟨rfl, ⟨nd, rfl⟩⟩; (try first | exact ⟨rfl, _, World.drewN_drewN _ _ _⟩ | exact ⟨rfl, _, Eq.trans (World.drewN_drewN _ _ _) (congrArg (World.drewN _) (Nat.add_assoc _ _ _))⟩))); try go_wp2_with (first | (go_at_call 11; (with_reducible refine (sumplaw42_below.calls ((rd_T29 l0 x58_3).f0) ((rd_T29 l0 x46_2).f0) true _ A62.out).mono ?_); rintro e w' ⟨rfl, ⟨nd, rfl⟩⟩; (try first | exact ⟨rfl, _, World.drewN_drewN _ _ _⟩ | exact ⟨rfl, _, Eq.trans (World.drewN_drewN _ _ _) (congrArg (World.drewN _) (Nat.add_assoc _ _ _))⟩))))
                        go_roundg kj49
                        case measure => have := HJ6.out; have := HK2.out; have := HK3.out; have := HJ31.out; have := HJ49.out; omega
                        case rel => exact ⟨(wrap64 (x58_3 + 1)), ((wrap64 (x136001_3 + 1))), (wrap64 (x136002_3 + 1)), (wrap64 (x136003_3 + ((rd_T29 l0 x58_3).f3))), (by first | rfl | (simp; done) | (simp [*]; done)), H', ⟨by have := HJ6.out; have := HK2.out; have := HK3.out; have := HJ31.out; have := HJ49.out; omega⟩, ⟨by (with_reducible repeat (first | apply Kd.R_alloc | apply Kd.R_drewN | apply Kd.R_drew)); exact Kd.R_mono (Kd.R_far (p := ⟨gb135, 2, none⟩) (Kd.R_far (p := ⟨gb135, 3, none⟩) (Kd.R_mono HO_9.out (fun k_ hk => (⟨hk, hk⟩ : _ ∧ k_ ≠ gb135))) (fun _ hk => hk.2) (.int .i64 (wrap64 (x136003_3 + ((rd_T29 l0 x58_3).f3))))) (fun _ hk => hk.2) (.int .i64 (wrap64 (x136002_3 + 1)))) (fun _ hk => hk.1)⟩, ⟨by (with_reducible repeat (first | refine blk_drewN ?_ _ | refine blk_drew ?_ | refine blk_alloc ?_ _)); refine blk_far ?_ NB134_135.out _; (with_reducible repeat (first | refine blk_drewN ?_ _ | refine blk_drew ?_ | refine blk_alloc ?_ _)); refine blk_far ?_ NB134_135.out _; (with_reducible repeat (first | refine blk_drewN ?_ _ | refine blk_drew ?_ | refine blk_alloc ?_ _)); exact BK134.out⟩, ⟨by (with_reducible repeat (first | refine blk_drewN ?_ _ | refine blk_drew ?_ | refine blk_alloc ?_ _)); refine blk_put (cs := #[.string ((rd_T29 l0 x46_2).f0), .int .i64 (wrap64 (x136001_3 + 1)), .int .i64 x136002_3, .int .i64 (wrap64 (x136003_3 + ((rd_T29 l0 x58_3).f3)))]) ?_ 2 _ rfl; (with_reducible repeat (first | refine blk_drewN ?_ _ | refine blk_drew ?_ | refine blk_alloc ?_ _)); refine blk_put (cs := #[.string ((rd_T29 l0 x46_2).f0), .int .i64 (wrap64 (x136001_3 + 1)), .int .i64 x136002_3, .int .i64 x136003_3]) ?_ 3 _ rfl; (with_reducible repeat (first | refine blk_drewN ?_ _ | refine blk_drew ?_ | refine blk_alloc ?_ _)); exact BK135.out⟩, ⟨by repeat (first | (with_reducible first | exact HB.out | apply below_alloc | apply pw_below_drewN | apply below_drew1 | refine below_set ?_ GE134.out | refine below_set ?_ GE135.out | refine below_set ?_ GE138.out) | exact HB.out)⟩⟩
                       ·rw [if_neg c64] at H
                        have c64b0 : (((rd_T29 l0 x58_3).f2) == 2) = false := beq_eq_false_iff_ne.mpr c64
                        have c64b1 : (((rd_T29 l0 x58_3).f2) != 2) = true := bne_iff_ne.mpr c64
                        have H' := Aside0.mk H
                        clear H
                        have hnb71 := NB135_134.out
                        have hnc71 := NB134_135.out
                        have hnb72 := NB135_138.out
                        have hnc72 := NB138_135.out
                        have hcz73_0 : wc.cell? ⟨gb135, 0, none⟩ = some (.string ((rd_T29 l0 x46_2).f0)) := (blk_cell BK135.out 0).trans rfl
                        have hcz73_1 : wc.cell? ⟨gb135, 1, none⟩ = some (.int .i64 (wrap64 (x136001_3 + 1))) := (blk_cell BK135.out 1).trans rfl
                        have hcz73_2 : wc.cell? ⟨gb135, 2, none⟩ = some (.int .i64 x136002_3) := (blk_cell BK135.out 2).trans rfl
                        have hcz73_3 : wc.cell? ⟨gb135, 3, none⟩ = some (.int .i64 x136003_3) := (blk_cell BK135.out 3).trans rfl
                        have hfz73_0 := blk_frozen BK135.out 0
                        have hfz73_1 := blk_frozen BK135.out 1
                        have hfz73_2 := blk_frozen BK135.out 2
                        have hfz73_3 := blk_frozen BK135.out 3
                        have hnb74 := NB138_134.out
                        have hnc74 := NB134_138.out
                        have hcz75_0 : wc.cell? ⟨gb138, 0, none⟩ = some (.string ((rd_T29 l0 x58_3).f0)) := (blk_cell BK138.out 0).trans rfl
                        have hcz75_1 : wc.cell? ⟨gb138, 1, none⟩ = some (.int .i64 ((rd_T29 l0 x58_3).f1)) := (blk_cell BK138.out 1).trans rfl
                        have hcz75_2 : wc.cell? ⟨gb138, 2, none⟩ = some (.int .i64 ((rd_T29 l0 x58_3).f2)) := (blk_cell BK138.out 2).trans rfl
                        have hcz75_3 : wc.cell? ⟨gb138, 3, none⟩ = some (.int .i64 ((rd_T29 l0 x58_3).f3)) := (blk_cell BK138.out 3).trans rfl
                        have hcz75_4 : wc.cell? ⟨gb138, 4, none⟩ = some (.slice A137_4 ((rd_T29 l0 x58_3).f4).length c137_4) := (blk_cell BK138.out 4).trans rfl
                        have hfz75_0 := blk_frozen BK138.out 0
                        have hfz75_1 := blk_frozen BK138.out 1
                        have hfz75_2 := blk_frozen BK138.out 2
                        have hfz75_3 := blk_frozen BK138.out 3
                        have hfz75_4 := blk_frozen BK138.out 4
                        have hcz76_0 : wc.cell? ⟨gb134, 0, none⟩ = some (.string ((rd_T29 l0 x46_2).f0)) := (blk_cell BK134.out 0).trans rfl
                        have hcz76_1 : wc.cell? ⟨gb134, 1, none⟩ = some (.int .i64 ((rd_T29 l0 x46_2).f1)) := (blk_cell BK134.out 1).trans rfl
                        have hcz76_2 : wc.cell? ⟨gb134, 2, none⟩ = some (.int .i64 ((rd_T29 l0 x46_2).f2)) := (blk_cell BK134.out 2).trans rfl
                        have hcz76_3 : wc.cell? ⟨gb134, 3, none⟩ = some (.int .i64 ((rd_T29 l0 x46_2).f3)) := (blk_cell BK134.out 3).trans rfl
                        have hcz76_4 : wc.cell? ⟨gb134, 4, none⟩ = some (.slice A133_4 ((rd_T29 l0 x46_2).f4).length c133_4) := (blk_cell BK134.out 4).trans rfl
                        have hfz76_0 := blk_frozen BK134.out 0
                        have hfz76_1 := blk_frozen BK134.out 1
                        have hfz76_2 := blk_frozen BK134.out 2
                        have hfz76_3 := blk_frozen BK134.out 3
                        have hfz76_4 := blk_frozen BK134.out 4
                        go_wp2_with (first | (go_at_call 11; (with_reducible refine (sumplaw42_below.calls ((rd_T29 l0 x58_3).f0) ((rd_T29 l0 x46_2).f0) true _ A62.out).mono ?_); rintro e w' ⟨rfl, ⟨nd, rfl⟩⟩; (try first | exact ⟨rfl, _, World.drewN_drewN _ _ _⟩ | exact ⟨rfl, _, Eq.trans (World.drewN_drewN _ _ _) (congrArg (World.drewN _) (Nat.add_assoc _ _ _))⟩)))
                        repeat (go_quiet (first | (go_at_call 11; (with_reducible refine (sumplaw42_below.calls ((rd_T29 l0 x58_3).f0) ((rd_T29 l0 x46_2).f0) true _ A62.out).mono ?_); rintro e w' ⟨rfl, ⟨nd, rfl⟩⟩; (try first | exact ⟨rfl, _, World.drewN_drewN _ _ _⟩ | exact ⟨rfl, _, Eq.trans (World.drewN_drewN _ _ _) (congrArg (World.drewN _) (Nat.add_assoc _ _ _))⟩))); try go_wp2_with (first | (go_at_call 11; (with_reducible refine (sumplaw42_below.calls ((rd_T29 l0 x58_3).f0) ((rd_T29 l0 x46_2).f0) true _ A62.out).mono ?_); rintro e w' ⟨rfl, ⟨nd, rfl⟩⟩; (try first | exact ⟨rfl, _, World.drewN_drewN _ _ _⟩ | exact ⟨rfl, _, Eq.trans (World.drewN_drewN _ _ _) (congrArg (World.drewN _) (Nat.add_assoc _ _ _))⟩))))
                        go_roundg kj49
                        case measure => have := HJ6.out; have := HK2.out; have := HK3.out; have := HJ31.out; have := HJ49.out; omega
                        case rel => exact ⟨(wrap64 (x58_3 + 1)), ((wrap64 (x136001_3 + 1))), (x136002_3), (wrap64 (x136003_3 + ((rd_T29 l0 x58_3).f3))), (by first | rfl | (simp; done) | (simp [*]; done)), H', ⟨by have := HJ6.out; have := HK2.out; have := HK3.out; have := HJ31.out; have := HJ49.out; omega⟩, ⟨by (with_reducible repeat (first | apply Kd.R_alloc | apply Kd.R_drewN | apply Kd.R_drew)); exact Kd.R_mono (Kd.R_far (p := ⟨gb135, 3, none⟩) (Kd.R_mono HO_9.out (fun k_ hk => (⟨hk, hk⟩ : _ ∧ k_ ≠ gb135))) (fun _ hk => hk.2) (.int .i64 (wrap64 (x136003_3 + ((rd_T29 l0 x58_3).f3))))) (fun _ hk => hk.1)⟩, ⟨by (with_reducible repeat (first | refine blk_drewN ?_ _ | refine blk_drew ?_ | refine blk_alloc ?_ _)); refine blk_far ?_ NB134_135.out _; (with_reducible repeat (first | refine blk_drewN ?_ _ | refine blk_drew ?_ | refine blk_alloc ?_ _)); exact BK134.out⟩, ⟨by (with_reducible repeat (first | refine blk_drewN ?_ _ | refine blk_drew ?_ | refine blk_alloc ?_ _)); refine blk_put (cs := #[.string ((rd_T29 l0 x46_2).f0), .int .i64 (wrap64 (x136001_3 + 1)), .int .i64 x136002_3, .int .i64 x136003_3]) ?_ 3 _ rfl; (with_reducible repeat (first | refine blk_drewN ?_ _ | refine blk_drew ?_ | refine blk_alloc ?_ _)); exact BK135.out⟩, ⟨by repeat (first | (with_reducible first | exact HB.out | apply below_alloc | apply pw_below_drewN | apply below_drew1 | refine below_set ?_ GE134.out | refine below_set ?_ GE135.out | refine below_set ?_ GE138.out) | exact HB.out)⟩⟩
                      ·replace c63 := Bool.eq_false_iff.mpr c63
                       subst c63
                       have H1 : (sumplaw42_UsageDoes.l1 kj49 l0 a1 a2 l3 t130 x10_2 l0 (l0.length : Int) x46_2 l0 (l0.length : Int) (wrap64 (x58_3 + 1)) ((rd_T29 l0 x46_2).f0) ((rd_T29 l0 x46_2).f1) ((rd_T29 l0 x46_2).f2) ((rd_T29 l0 x46_2).f3) ((rd_T29 l0 x46_2).f4) ((rd_T29 l0 x46_2).f0) (wrap64 (x136001_3 + 1)) x136002_3 (wrap64 (x136003_3 + ((rd_T29 l0 x58_3).f3)))) = some r := by rw [if_neg (show ¬ (false = true) by decide)] at H; exact H
                       clear H
                       have H := H1
                       clear H1
                       have H' := Aside0.mk H
                       clear H
                       have hnb77 := NB135_134.out
                       have hnc77 := NB134_135.out
                       have hnb78 := NB135_138.out
                       have hnc78 := NB138_135.out
                       have hcz79_0 : wc.cell? ⟨gb135, 0, none⟩ = some (.string ((rd_T29 l0 x46_2).f0)) := (blk_cell BK135.out 0).trans rfl
                       have hcz79_1 : wc.cell? ⟨gb135, 1, none⟩ = some (.int .i64 (wrap64 (x136001_3 + 1))) := (blk_cell BK135.out 1).trans rfl
                       have hcz79_2 : wc.cell? ⟨gb135, 2, none⟩ = some (.int .i64 x136002_3) := (blk_cell BK135.out 2).trans rfl
                       have hcz79_3 : wc.cell? ⟨gb135, 3, none⟩ = some (.int .i64 x136003_3) := (blk_cell BK135.out 3).trans rfl
                       have hfz79_0 := blk_frozen BK135.out 0
                       have hfz79_1 := blk_frozen BK135.out 1
                       have hfz79_2 := blk_frozen BK135.out 2
                       have hfz79_3 := blk_frozen BK135.out 3
                       have hnb80 := NB138_134.out
                       have hnc80 := NB134_138.out
                       have hcz81_0 : wc.cell? ⟨gb138, 0, none⟩ = some (.string ((rd_T29 l0 x58_3).f0)) := (blk_cell BK138.out 0).trans rfl
                       have hcz81_1 : wc.cell? ⟨gb138, 1, none⟩ = some (.int .i64 ((rd_T29 l0 x58_3).f1)) := (blk_cell BK138.out 1).trans rfl
                       have hcz81_2 : wc.cell? ⟨gb138, 2, none⟩ = some (.int .i64 ((rd_T29 l0 x58_3).f2)) := (blk_cell BK138.out 2).trans rfl
                       have hcz81_3 : wc.cell? ⟨gb138, 3, none⟩ = some (.int .i64 ((rd_T29 l0 x58_3).f3)) := (blk_cell BK138.out 3).trans rfl
                       have hcz81_4 : wc.cell? ⟨gb138, 4, none⟩ = some (.slice A137_4 ((rd_T29 l0 x58_3).f4).length c137_4) := (blk_cell BK138.out 4).trans rfl
                       have hfz81_0 := blk_frozen BK138.out 0
                       have hfz81_1 := blk_frozen BK138.out 1
                       have hfz81_2 := blk_frozen BK138.out 2
                       have hfz81_3 := blk_frozen BK138.out 3
                       have hfz81_4 := blk_frozen BK138.out 4
                       have hcz82_0 : wc.cell? ⟨gb134, 0, none⟩ = some (.string ((rd_T29 l0 x46_2).f0)) := (blk_cell BK134.out 0).trans rfl
                       have hcz82_1 : wc.cell? ⟨gb134, 1, none⟩ = some (.int .i64 ((rd_T29 l0 x46_2).f1)) := (blk_cell BK134.out 1).trans rfl
                       have hcz82_2 : wc.cell? ⟨gb134, 2, none⟩ = some (.int .i64 ((rd_T29 l0 x46_2).f2)) := (blk_cell BK134.out 2).trans rfl
                       have hcz82_3 : wc.cell? ⟨gb134, 3, none⟩ = some (.int .i64 ((rd_T29 l0 x46_2).f3)) := (blk_cell BK134.out 3).trans rfl
                       have hcz82_4 : wc.cell? ⟨gb134, 4, none⟩ = some (.slice A133_4 ((rd_T29 l0 x46_2).f4).length c133_4) := (blk_cell BK134.out 4).trans rfl
                       have hfz82_0 := blk_frozen BK134.out 0
                       have hfz82_1 := blk_frozen BK134.out 1
                       have hfz82_2 := blk_frozen BK134.out 2
                       have hfz82_3 := blk_frozen BK134.out 3
                       have hfz82_4 := blk_frozen BK134.out 4
                       go_wp2_with (first | (go_at_call 11; (with_reducible refine (sumplaw42_below.calls ((rd_T29 l0 x58_3).f0) ((rd_T29 l0 x46_2).f0) false _ A62.out).mono ?_); rintro e w' ⟨rfl, ⟨nd, rfl⟩⟩; (try first | exact ⟨rfl, _, World.drewN_drewN _ _ _⟩ | exact ⟨rfl, _, Eq.trans (World.drewN_drewN _ _ _) (congrArg (World.drewN _) (Nat.add_assoc _ _ _))⟩)))
                       repeat (go_quiet (first | (go_at_call 11; (with_reducible refine (sumplaw42_below.calls ((rd_T29 l0 x58_3).f0) ((rd_T29 l0 x46_2).f0) false _ A62.out).mono ?_); rintro e w' ⟨rfl, ⟨nd, rfl⟩⟩; (try first | exact ⟨rfl, _, World.drewN_drewN _ _ _⟩ | exact ⟨rfl, _, Eq.trans (World.drewN_drewN _ _ _) (congrArg (World.drewN _) (Nat.add_assoc _ _ _))⟩))); try go_wp2_with (first | (go_at_call 11; (with_reducible refine (sumplaw42_below.calls ((rd_T29 l0 x58_3).f0) ((rd_T29 l0 x46_2).f0) false _ A62.out).mono ?_); rintro e w' ⟨rfl, ⟨nd, rfl⟩⟩; (try first | exact ⟨rfl, _, World.drewN_drewN _ _ _⟩ | exact ⟨rfl, _, Eq.trans (World.drewN_drewN _ _ _) (congrArg (World.drewN _) (Nat.add_assoc _ _ _))⟩))))
                       go_roundg kj49
                       case measure => have := HJ6.out; have := HK2.out; have := HK3.out; have := HJ31.out; have := HJ49.out; omega
                       case rel => exact ⟨(wrap64 (x58_3 + 1)), ((wrap64 (x136001_3 + 1))), (x136002_3), (wrap64 (x136003_3 + ((rd_T29 l0 x58_3).f3))), (by first | rfl | (simp; done) | (simp [*]; done)), H', ⟨by have := HJ6.out; have := HK2.out; have := HK3.out; have := HJ31.out; have := HJ49.out; omega⟩, ⟨by (with_reducible repeat (first | apply Kd.R_alloc | apply Kd.R_drewN | apply Kd.R_drew)); exact Kd.R_mono (Kd.R_far (p := ⟨gb135, 3, none⟩) (Kd.R_mono HO_9.out (fun k_ hk => (⟨hk, hk⟩ : _ ∧ k_ ≠ gb135))) (fun _ hk => hk.2) (.int .i64 (wrap64 (x136003_3 + ((rd_T29 l0 x58_3).f3))))) (fun _ hk => hk.1)⟩, ⟨by (with_reducible repeat (first | refine blk_drewN ?_ _ | refine blk_drew ?_ | refine blk_alloc ?_ _)); refine blk_far ?_ NB134_135.out _; (with_reducible repeat (first | refine blk_drewN ?_ _ | refine blk_drew ?_ | refine blk_alloc ?_ _)); exact BK134.out⟩, ⟨by (with_reducible repeat (first | refine blk_drewN ?_ _ | refine blk_drew ?_ | refine blk_alloc ?_ _)); refine blk_put (cs := #[.string ((rd_T29 l0 x46_2).f0), .int .i64 (wrap64 (x136001_3 + 1)), .int .i64 x136002_3, .int .i64 x136003_3]) ?_ 3 _ rfl; (with_reducible repeat (first | refine blk_drewN ?_ _ | refine blk_drew ?_ | refine blk_alloc ?_ _)); exact BK135.out⟩, ⟨by repeat (first | (with_reducible first | exact HB.out | apply below_alloc | apply pw_below_drewN | apply below_drew1 | refine below_set ?_ GE134.out | refine below_set ?_ GE135.out | refine below_set ?_ GE138.out) | exact HB.out)⟩⟩
                     ·replace c61 := Bool.eq_false_iff.mpr c61
                      subst c61
                      have H1 : ((sumplaw42_below.f ((rd_T29 l0 x58_3).f0) ((rd_T29 l0 x46_2).f0)).bind fun t141 => (if t141 = true then (if ((rd_T29 l0 x58_3).f2) = 2 then (sumplaw42_UsageDoes.l1 kj49 l0 a1 a2 l3 t130 x10_2 l0 (l0.length : Int) x46_2 l0 (l0.length : Int) (wrap64 (x58_3 + 1)) ((rd_T29 l0 x46_2).f0) ((rd_T29 l0 x46_2).f1) ((rd_T29 l0 x46_2).f2) ((rd_T29 l0 x46_2).f3) ((rd_T29 l0 x46_2).f4) ((rd_T29 l0 x46_2).f0) (wrap64 (x136001_3 + 1)) (wrap64 (x136002_3 + 1)) x136003_3) else (sumplaw42_UsageDoes.l1 kj49 l0 a1 a2 l3 t130 x10_2 l0 (l0.length : Int) x46_2 l0 (l0.length : Int) (wrap64 (x58_3 + 1)) ((rd_T29 l0 x46_2).f0) ((rd_T29 l0 x46_2).f1) ((rd_T29 l0 x46_2).f2) ((rd_T29 l0 x46_2).f3) ((rd_T29 l0 x46_2).f4) ((rd_T29 l0 x46_2).f0) (wrap64 (x136001_3 + 1)) x136002_3 x136003_3)) else (sumplaw42_UsageDoes.l1 kj49 l0 a1 a2 l3 t130 x10_2 l0 (l0.length : Int) x46_2 l0 (l0.length : Int) (wrap64 (x58_3 + 1)) ((rd_T29 l0 x46_2).f0) ((rd_T29 l0 x46_2).f1) ((rd_T29 l0 x46_2).f2) ((rd_T29 l0 x46_2).f3) ((rd_T29 l0 x46_2).f4) ((rd_T29 l0 x46_2).f0) (wrap64 (x136001_3 + 1)) x136002_3 x136003_3))) = some r := by rw [if_neg (show ¬ (false = true) by decide)] at H; exact H
                      clear H
                      have H := H1
                      clear H1
                      replace H := Option.bind_eq_some_iff.mp H
                      obtain ⟨t141, A830, H⟩ := H
                      replace H : (if t141 = true then (if ((rd_T29 l0 x58_3).f2) = 2 then (sumplaw42_UsageDoes.l1 kj49 l0 a1 a2 l3 t130 x10_2 l0 (l0.length : Int) x46_2 l0 (l0.length : Int) (wrap64 (x58_3 + 1)) ((rd_T29 l0 x46_2).f0) ((rd_T29 l0 x46_2).f1) ((rd_T29 l0 x46_2).f2) ((rd_T29 l0 x46_2).f3) ((rd_T29 l0 x46_2).f4) ((rd_T29 l0 x46_2).f0) (wrap64 (x136001_3 + 1)) (wrap64 (x136002_3 + 1)) x136003_3) else (sumplaw42_UsageDoes.l1 kj49 l0 a1 a2 l3 t130 x10_2 l0 (l0.length : Int) x46_2 l0 (l0.length : Int) (wrap64 (x58_3 + 1)) ((rd_T29 l0 x46_2).f0) ((rd_T29 l0 x46_2).f1) ((rd_T29 l0 x46_2).f2) ((rd_T29 l0 x46_2).f3) ((rd_T29 l0 x46_2).f4) ((rd_T29 l0 x46_2).f0) (wrap64 (x136001_3 + 1)) x136002_3 x136003_3)) else (sumplaw42_UsageDoes.l1 kj49 l0 a1 a2 l3 t130 x10_2 l0 (l0.length : Int) x46_2 l0 (l0.length : Int) (wrap64 (x58_3 + 1)) ((rd_T29 l0 x46_2).f0) ((rd_T29 l0 x46_2).f1) ((rd_T29 l0 x46_2).f2) ((rd_T29 l0 x46_2).f3) ((rd_T29 l0 x46_2).f4) ((rd_T29 l0 x46_2).f0) (wrap64 (x136001_3 + 1)) x136002_3 x136003_3)) = some r := H
                      have A83 := Aside0.mk A830
                      clear A830
                      by_cases c84 : t141 = true
                      ·subst c84
                       have H1 : (if ((rd_T29 l0 x58_3).f2) = 2 then (sumplaw42_UsageDoes.l1 kj49 l0 a1 a2 l3 t130 x10_2 l0 (l0.length : Int) x46_2 l0 (l0.length : Int) (wrap64 (x58_3 + 1)) ((rd_T29 l0 x46_2).f0) ((rd_T29 l0 x46_2).f1) ((rd_T29 l0 x46_2).f2) ((rd_T29 l0 x46_2).f3) ((rd_T29 l0 x46_2).f4) ((rd_T29 l0 x46_2).f0) (wrap64 (x136001_3 + 1)) (wrap64 (x136002_3 + 1)) x136003_3) else (sumplaw42_UsageDoes.l1 kj49 l0 a1 a2 l3 t130 x10_2 l0 (l0.length : Int) x46_2 l0 (l0.length : Int) (wrap64 (x58_3 + 1)) ((rd_T29 l0 x46_2).f0) ((rd_T29 l0 x46_2).f1) ((rd_T29 l0 x46_2).f2) ((rd_T29 l0 x46_2).f3) ((rd_T29 l0 x46_2).f4) ((rd_T29 l0 x46_2).f0) (wrap64 (x136001_3 + 1)) x136002_3 x136003_3)) = some r := by rw [if_pos rfl] at H; exact H
                       clear H
                       have H := H1
                       clear H1
                       by_cases c85 : ((rd_T29 l0 x58_3).f2) = 2
                       ·rw [if_pos c85] at H
                        have c85b0 : (((rd_T29 l0 x58_3).f2) == 2) = true := beq_iff_eq.mpr c85
                        have c85b1 : (((rd_T29 l0 x58_3).f2) != 2) = false := bne_eq_false_iff_eq.mpr c85
                        clear c85
                        have H' := Aside0.mk H
                        clear H
                        have hnb86 := NB138_134.out
                        have hnc86 := NB134_138.out
                        have hnb87 := NB138_135.out
                        have hnc87 := NB135_138.out
                        have hcz88_0 : wc.cell? ⟨gb138, 0, none⟩ = some (.string ((rd_T29 l0 x58_3).f0)) := (blk_cell BK138.out 0).trans rfl
                        have hcz88_1 : wc.cell? ⟨gb138, 1, none⟩ = some (.int .i64 ((rd_T29 l0 x58_3).f1)) := (blk_cell BK138.out 1).trans rfl
                        have hcz88_2 : wc.cell? ⟨gb138, 2, none⟩ = some (.int .i64 ((rd_T29 l0 x58_3).f2)) := (blk_cell BK138.out 2).trans rfl
                        have hcz88_3 : wc.cell? ⟨gb138, 3, none⟩ = some (.int .i64 ((rd_T29 l0 x58_3).f3)) := (blk_cell BK138.out 3).trans rfl
                        have hcz88_4 : wc.cell? ⟨gb138, 4, none⟩ = some (.slice A137_4 ((rd_T29 l0 x58_3).f4).length c137_4) := (blk_cell BK138.out 4).trans rfl
                        have hfz88_0 := blk_frozen BK138.out 0
                        have hfz88_1 := blk_frozen BK138.out 1
                        have hfz88_2 := blk_frozen BK138.out 2
                        have hfz88_3 := blk_frozen BK138.out 3
                        have hfz88_4 := blk_frozen BK138.out 4
                        have hnb89 := NB134_135.out
                        have hnc89 := NB135_134.out
                        have hcz90_0 : wc.cell? ⟨gb134, 0, none⟩ = some (.string ((rd_T29 l0 x46_2).f0)) := (blk_cell BK134.out 0).trans rfl
                        have hcz90_1 : wc.cell? ⟨gb134, 1, none⟩ = some (.int .i64 ((rd_T29 l0 x46_2).f1)) := (blk_cell BK134.out 1).trans rfl
                        have hcz90_2 : wc.cell? ⟨gb134, 2, none⟩ = some (.int .i64 ((rd_T29 l0 x46_2).f2)) := (blk_cell BK134.out 2).trans rfl
                        have hcz90_3 : wc.cell? ⟨gb134, 3, none⟩ = some (.int .i64 ((rd_T29 l0 x46_2).f3)) := (blk_cell BK134.out 3).trans rfl
                        have hcz90_4 : wc.cell? ⟨gb134, 4, none⟩ = some (.slice A133_4 ((rd_T29 l0 x46_2).f4).length c133_4) := (blk_cell BK134.out 4).trans rfl
                        have hfz90_0 := blk_frozen BK134.out 0
                        have hfz90_1 := blk_frozen BK134.out 1
                        have hfz90_2 := blk_frozen BK134.out 2
                        have hfz90_3 := blk_frozen BK134.out 3
                        have hfz90_4 := blk_frozen BK134.out 4
                        go_wp2_with (first | (go_at_call 11; (with_reducible refine (sumplaw42_below.calls ((rd_T29 l0 x58_3).f0) ((rd_T29 l0 x46_2).f0) true _ A83.out).mono ?_); rintro e w' ⟨rfl, ⟨nd, rfl⟩⟩; (try first | exact ⟨rfl, _, World.drewN_drewN _ _ _⟩ | exact ⟨rfl, _, Eq.trans (World.drewN_drewN _ _ _) (congrArg (World.drewN _) (Nat.add_assoc _ _ _))⟩); have hcz91_0 : wc.cell? ⟨gb135, 0, none⟩ = some (.string ((rd_T29 l0 x46_2).f0)) := (blk_cell BK135.out 0).trans rfl; have hcz91_1 : wc.cell? ⟨gb135, 1, none⟩ = some (.int .i64 (wrap64 (x136001_3 + 1))) := (blk_cell BK135.out 1).trans rfl; have hcz91_2 : wc.cell? ⟨gb135, 2, none⟩ = some (.int .i64 x136002_3) := (blk_cell BK135.out 2).trans rfl; have hcz91_3 : wc.cell? ⟨gb135, 3, none⟩ = some (.int .i64 x136003_3) := (blk_cell BK135.out 3).trans rfl; have hfz91_0 := blk_frozen BK135.out 0; have hfz91_1 := blk_frozen BK135.out 1; have hfz91_2 := blk_frozen BK135.out 2; have hfz91_3 := blk_frozen BK135.out 3))
                        repeat (go_quiet (first | (go_at_call 11; (with_reducible refine (sumplaw42_below.calls ((rd_T29 l0 x58_3).f0) ((rd_T29 l0 x46_2).f0) true _ A83.out).mono ?_); rintro e w' ⟨rfl, ⟨nd, rfl⟩⟩; (try first | exact ⟨rfl, _, World.drewN_drewN _ _ _⟩ | exact ⟨rfl, _, Eq.trans (World.drewN_drewN _ _ _) (congrArg (World.drewN _) (Nat.add_assoc _ _ _))⟩); have hcz91_0 : wc.cell? ⟨gb135, 0, none⟩ = some (.string ((rd_T29 l0 x46_2).f0)) := (blk_cell BK135.out 0).trans rfl; have hcz91_1 : wc.cell? ⟨gb135, 1, none⟩ = some (.int .i64 (wrap64 (x136001_3 + 1))) := (blk_cell BK135.out 1).trans rfl; have hcz91_2 : wc.cell? ⟨gb135, 2, none⟩ = some (.int .i64 x136002_3) := (blk_cell BK135.out 2).trans rfl; have hcz91_3 : wc.cell? ⟨gb135, 3, none⟩ = some (.int .i64 x136003_3) := (blk_cell BK135.out 3).trans rfl; have hfz91_0 := blk_frozen BK135.out 0; have hfz91_1 := blk_frozen BK135.out 1; have hfz91_2 := blk_frozen BK135.out 2; have hfz91_3 := blk_frozen BK135.out 3)); try go_wp2_with (first | (go_at_call 11; (with_reducible refine (sumplaw42_below.calls ((rd_T29 l0 x58_3).f0) ((rd_T29 l0 x46_2).f0) true _ A83.out).mono ?_); rintro e w' ⟨rfl, ⟨nd, rfl⟩⟩; (try first | exact ⟨rfl, _, World.drewN_drewN _ _ _⟩ | exact ⟨rfl, _, Eq.trans (World.drewN_drewN _ _ _) (congrArg (World.drewN _) (Nat.add_assoc _ _ _))⟩); have hcz91_0 : wc.cell? ⟨gb135, 0, none⟩ = some (.string ((rd_T29 l0 x46_2).f0)) := (blk_cell BK135.out 0).trans rfl; have hcz91_1 : wc.cell? ⟨gb135, 1, none⟩ = some (.int .i64 (wrap64 (x136001_3 + 1))) := (blk_cell BK135.out 1).trans rfl; have hcz91_2 : wc.cell? ⟨gb135, 2, none⟩ = some (.int .i64 x136002_3) := (blk_cell BK135.out 2).trans rfl; have hcz91_3 : wc.cell? ⟨gb135, 3, none⟩ = some (.int .i64 x136003_3) := (blk_cell BK135.out 3).trans rfl; have hfz91_0 := blk_frozen BK135.out 0; have hfz91_1 := blk_frozen BK135.out 1; have hfz91_2 := blk_frozen BK135.out 2; have hfz91_3 := blk_frozen BK135.out 3)))
                        go_roundg kj49
                        case measure => have := HJ6.out; have := HK2.out; have := HK3.out; have := HJ31.out; have := HJ49.out; omega
                        case rel => exact ⟨(wrap64 (x58_3 + 1)), ((wrap64 (x136001_3 + 1))), (wrap64 (x136002_3 + 1)), (x136003_3), (by first | rfl | (simp; done) | (simp [*]; done)), H', ⟨by have := HJ6.out; have := HK2.out; have := HK3.out; have := HJ31.out; have := HJ49.out; omega⟩, ⟨by (with_reducible repeat (first | apply Kd.R_alloc | apply Kd.R_drewN | apply Kd.R_drew)); exact Kd.R_mono (Kd.R_far (p := ⟨gb135, 2, none⟩) (Kd.R_mono HO_9.out (fun k_ hk => (⟨hk, hk⟩ : _ ∧ k_ ≠ gb135))) (fun _ hk => hk.2) (.int .i64 (wrap64 (x136002_3 + 1)))) (fun _ hk => hk.1)⟩, ⟨by (with_reducible repeat (first | refine blk_drewN ?_ _ | refine blk_drew ?_ | refine blk_alloc ?_ _)); refine blk_far ?_ NB134_135.out _; (with_reducible repeat (first | refine blk_drewN ?_ _ | refine blk_drew ?_ | refine blk_alloc ?_ _)); exact BK134.out⟩, ⟨by (with_reducible repeat (first | refine blk_drewN ?_ _ | refine blk_drew ?_ | refine blk_alloc ?_ _)); refine blk_put (cs := #[.string ((rd_T29 l0 x46_2).f0), .int .i64 (wrap64 (x136001_3 + 1)), .int .i64 x136002_3, .int .i64 x136003_3]) ?_ 2 _ rfl; (with_reducible repeat (first | refine blk_drewN ?_ _ | refine blk_drew ?_ | refine blk_alloc ?_ _)); exact BK135.out⟩, ⟨by repeat (first | (with_reducible first | exact HB.out | apply below_alloc | apply pw_below_drewN | apply below_drew1 | refine below_set ?_ GE134.out | refine below_set ?_ GE135.out | refine below_set ?_ GE138.out) | exact HB.out)⟩⟩
                       ·rw [if_neg c85] at H
                        have c85b0 : (((rd_T29 l0 x58_3).f2) == 2) = false := beq_eq_false_iff_ne.mpr c85
                        have c85b1 : (((rd_T29 l0 x58_3).f2) != 2) = true := bne_iff_ne.mpr c85
                        have H' := Aside0.mk H
                        clear H
                        have hnb92 := NB138_134.out
                        have hnc92 := NB134_138.out
                        have hnb93 := NB138_135.out
                        have hnc93 := NB135_138.out
                        have hcz94_0 : wc.cell? ⟨gb138, 0, none⟩ = some (.string ((rd_T29 l0 x58_3).f0)) := (blk_cell BK138.out 0).trans rfl
                        have hcz94_1 : wc.cell? ⟨gb138, 1, none⟩ = some (.int .i64 ((rd_T29 l0 x58_3).f1)) := (blk_cell BK138.out 1).trans rfl
                        have hcz94_2 : wc.cell? ⟨gb138, 2, none⟩ = some (.int .i64 ((rd_T29 l0 x58_3).f2)) := (blk_cell BK138.out 2).trans rfl
                        have hcz94_3 : wc.cell? ⟨gb138, 3, none⟩ = some (.int .i64 ((rd_T29 l0 x58_3).f3)) := (blk_cell BK138.out 3).trans rfl
                        have hcz94_4 : wc.cell? ⟨gb138, 4, none⟩ = some (.slice A137_4 ((rd_T29 l0 x58_3).f4).length c137_4) := (blk_cell BK138.out 4).trans rfl
                        have hfz94_0 := blk_frozen BK138.out 0
                        have hfz94_1 := blk_frozen BK138.out 1
                        have hfz94_2 := blk_frozen BK138.out 2
                        have hfz94_3 := blk_frozen BK138.out 3
                        have hfz94_4 := blk_frozen BK138.out 4
                        have hnb95 := NB134_135.out
                        have hnc95 := NB135_134.out
                        have hcz96_0 : wc.cell? ⟨gb134, 0, none⟩ = some (.string ((rd_T29 l0 x46_2).f0)) := (blk_cell BK134.out 0).trans rfl
                        have hcz96_1 : wc.cell? ⟨gb134, 1, none⟩ = some (.int .i64 ((rd_T29 l0 x46_2).f1)) := (blk_cell BK134.out 1).trans rfl
                        have hcz96_2 : wc.cell? ⟨gb134, 2, none⟩ = some (.int .i64 ((rd_T29 l0 x46_2).f2)) := (blk_cell BK134.out 2).trans rfl
                        have hcz96_3 : wc.cell? ⟨gb134, 3, none⟩ = some (.int .i64 ((rd_T29 l0 x46_2).f3)) := (blk_cell BK134.out 3).trans rfl
                        have hcz96_4 : wc.cell? ⟨gb134, 4, none⟩ = some (.slice A133_4 ((rd_T29 l0 x46_2).f4).length c133_4) := (blk_cell BK134.out 4).trans rfl
                        have hfz96_0 := blk_frozen BK134.out 0
                        have hfz96_1 := blk_frozen BK134.out 1
                        have hfz96_2 := blk_frozen BK134.out 2
                        have hfz96_3 := blk_frozen BK134.out 3
                        have hfz96_4 := blk_frozen BK134.out 4
                        go_wp2_with (first | (go_at_call 11; (with_reducible refine (sumplaw42_below.calls ((rd_T29 l0 x58_3).f0) ((rd_T29 l0 x46_2).f0) true _ A83.out).mono ?_); rintro e w' ⟨rfl, ⟨nd, rfl⟩⟩; (try first | exact ⟨rfl, _, World.drewN_drewN _ _ _⟩ | exact ⟨rfl, _, Eq.trans (World.drewN_drewN _ _ _) (congrArg (World.drewN _) (Nat.add_assoc _ _ _))⟩)))
                        repeat (go_quiet (first | (go_at_call 11; (with_reducible refine (sumplaw42_below.calls ((rd_T29 l0 x58_3).f0) ((rd_T29 l0 x46_2).f0) true _ A83.out).mono ?_); rintro e w' ⟨rfl, ⟨nd, rfl⟩⟩; (try first | exact ⟨rfl, _, World.drewN_drewN _ _ _⟩ | exact ⟨rfl, _, Eq.trans (World.drewN_drewN _ _ _) (congrArg (World.drewN _) (Nat.add_assoc _ _ _))⟩))); try go_wp2_with (first | (go_at_call 11; (with_reducible refine (sumplaw42_below.calls ((rd_T29 l0 x58_3).f0) ((rd_T29 l0 x46_2).f0) true _ A83.out).mono ?_); rintro e w' ⟨rfl, ⟨nd, rfl⟩⟩; (try first | exact ⟨rfl, _, World.drewN_drewN _ _ _⟩ | exact ⟨rfl, _, Eq.trans (World.drewN_drewN _ _ _) (congrArg (World.drewN _) (Nat.add_assoc _ _ _))⟩))))
                        go_roundg kj49
                        case measure => have := HJ6.out; have := HK2.out; have := HK3.out; have := HJ31.out; have := HJ49.out; omega
                        case rel => exact ⟨(wrap64 (x58_3 + 1)), ((wrap64 (x136001_3 + 1))), (x136002_3), (x136003_3), (by first | rfl | (simp; done) | (simp [*]; done)), H', ⟨by have := HJ6.out; have := HK2.out; have := HK3.out; have := HJ31.out; have := HJ49.out; omega⟩, ⟨by (with_reducible repeat (first | apply Kd.R_alloc | apply Kd.R_drewN | apply Kd.R_drew)); exact HO_9.out⟩, ⟨by (with_reducible repeat (first | refine blk_drewN ?_ _ | refine blk_drew ?_ | refine blk_alloc ?_ _)); exact BK134.out⟩, ⟨by (with_reducible repeat (first | refine blk_drewN ?_ _ | refine blk_drew ?_ | refine blk_alloc ?_ _)); exact BK135.out⟩, ⟨by repeat (first | (with_reducible first | exact HB.out | apply below_alloc | apply pw_below_drewN | apply below_drew1 | refine below_set ?_ GE134.out | refine below_set ?_ GE135.out | refine below_set ?_ GE138.out) | exact HB.out)⟩⟩
                      ·replace c84 := Bool.eq_false_iff.mpr c84
                       subst c84
                       have H1 : (sumplaw42_UsageDoes.l1 kj49 l0 a1 a2 l3 t130 x10_2 l0 (l0.length : Int) x46_2 l0 (l0.length : Int) (wrap64 (x58_3 + 1)) ((rd_T29 l0 x46_2).f0) ((rd_T29 l0 x46_2).f1) ((rd_T29 l0 x46_2).f2) ((rd_T29 l0 x46_2).f3) ((rd_T29 l0 x46_2).f4) ((rd_T29 l0 x46_2).f0) (wrap64 (x136001_3 + 1)) x136002_3 x136003_3) = some r := by rw [if_neg (show ¬ (false = true) by decide)] at H; exact H
                       clear H
                       have H := H1
                       clear H1
                       have H' := Aside0.mk H
                       clear H
                       have hnb97 := NB138_134.out
                       have hnc97 := NB134_138.out
                       have hnb98 := NB138_135.out
                       have hnc98 := NB135_138.out
                       have hcz99_0 : wc.cell? ⟨gb138, 0, none⟩ = some (.string ((rd_T29 l0 x58_3).f0)) := (blk_cell BK138.out 0).trans rfl
                       have hcz99_1 : wc.cell? ⟨gb138, 1, none⟩ = some (.int .i64 ((rd_T29 l0 x58_3).f1)) := (blk_cell BK138.out 1).trans rfl
                       have hcz99_2 : wc.cell? ⟨gb138, 2, none⟩ = some (.int .i64 ((rd_T29 l0 x58_3).f2)) := (blk_cell BK138.out 2).trans rfl
                       have hcz99_3 : wc.cell? ⟨gb138, 3, none⟩ = some (.int .i64 ((rd_T29 l0 x58_3).f3)) := (blk_cell BK138.out 3).trans rfl
                       have hcz99_4 : wc.cell? ⟨gb138, 4, none⟩ = some (.slice A137_4 ((rd_T29 l0 x58_3).f4).length c137_4) := (blk_cell BK138.out 4).trans rfl
                       have hfz99_0 := blk_frozen BK138.out 0
                       have hfz99_1 := blk_frozen BK138.out 1
                       have hfz99_2 := blk_frozen BK138.out 2
                       have hfz99_3 := blk_frozen BK138.out 3
                       have hfz99_4 := blk_frozen BK138.out 4
                       have hnb100 := NB134_135.out
                       have hnc100 := NB135_134.out
                       have hcz101_0 : wc.cell? ⟨gb134, 0, none⟩ = some (.string ((rd_T29 l0 x46_2).f0)) := (blk_cell BK134.out 0).trans rfl
                       have hcz101_1 : wc.cell? ⟨gb134, 1, none⟩ = some (.int .i64 ((rd_T29 l0 x46_2).f1)) := (blk_cell BK134.out 1).trans rfl
                       have hcz101_2 : wc.cell? ⟨gb134, 2, none⟩ = some (.int .i64 ((rd_T29 l0 x46_2).f2)) := (blk_cell BK134.out 2).trans rfl
                       have hcz101_3 : wc.cell? ⟨gb134, 3, none⟩ = some (.int .i64 ((rd_T29 l0 x46_2).f3)) := (blk_cell BK134.out 3).trans rfl
                       have hcz101_4 : wc.cell? ⟨gb134, 4, none⟩ = some (.slice A133_4 ((rd_T29 l0 x46_2).f4).length c133_4) := (blk_cell BK134.out 4).trans rfl
                       have hfz101_0 := blk_frozen BK134.out 0
                       have hfz101_1 := blk_frozen BK134.out 1
                       have hfz101_2 := blk_frozen BK134.out 2
                       have hfz101_3 := blk_frozen BK134.out 3
                       have hfz101_4 := blk_frozen BK134.out 4
                       go_wp2_with (first | (go_at_call 11; (with_reducible refine (sumplaw42_below.calls ((rd_T29 l0 x58_3).f0) ((rd_T29 l0 x46_2).f0) false _ A83.out).mono ?_); rintro e w' ⟨rfl, ⟨nd, rfl⟩⟩; (try first | exact ⟨rfl, _, World.drewN_drewN _ _ _⟩ | exact ⟨rfl, _, Eq.trans (World.drewN_drewN _ _ _) (congrArg (World.drewN _) (Nat.add_assoc _ _ _))⟩)))
                       repeat (go_quiet (first | (go_at_call 11; (with_reducible refine (sumplaw42_below.calls ((rd_T29 l0 x58_3).f0) ((rd_T29 l0 x46_2).f0) false _ A83.out).mono ?_); rintro e w' ⟨rfl, ⟨nd, rfl⟩⟩; (try first | exact ⟨rfl, _, World.drewN_drewN _ _ _⟩ | exact ⟨rfl, _, Eq.trans (World.drewN_drewN _ _ _) (congrArg (World.drewN _) (Nat.add_assoc _ _ _))⟩))); try go_wp2_with (first | (go_at_call 11; (with_reducible refine (sumplaw42_below.calls ((rd_T29 l0 x58_3).f0) ((rd_T29 l0 x46_2).f0) false _ A83.out).mono ?_); rintro e w' ⟨rfl, ⟨nd, rfl⟩⟩; (try first | exact ⟨rfl, _, World.drewN_drewN _ _ _⟩ | exact ⟨rfl, _, Eq.trans (World.drewN_drewN _ _ _) (congrArg (World.drewN _) (Nat.add_assoc _ _ _))⟩))))
                       go_roundg kj49
                       case measure => have := HJ6.out; have := HK2.out; have := HK3.out; have := HJ31.out; have := HJ49.out; omega
                       case rel => exact ⟨(wrap64 (x58_3 + 1)), ((wrap64 (x136001_3 + 1))), (x136002_3), (x136003_3), (by first | rfl | (simp; done) | (simp [*]; done)), H', ⟨by have := HJ6.out; have := HK2.out; have := HK3.out; have := HJ31.out; have := HJ49.out; omega⟩, ⟨by (with_reducible repeat (first | apply Kd.R_alloc | apply Kd.R_drewN | apply Kd.R_drew)); exact HO_9.out⟩, ⟨by (with_reducible repeat (first | refine blk_drewN ?_ _ | refine blk_drew ?_ | refine blk_alloc ?_ _)); exact BK134.out⟩, ⟨by (with_reducible repeat (first | refine blk_drewN ?_ _ | refine blk_drew ?_ | refine blk_alloc ?_ _)); exact BK135.out⟩, ⟨by repeat (first | (with_reducible first | exact HB.out | apply below_alloc | apply pw_below_drewN | apply below_drew1 | refine below_set ?_ GE134.out | refine below_set ?_ GE135.out | refine below_set ?_ GE138.out) | exact HB.out)⟩⟩
                  ·replace c49 := Bool.eq_false_iff.mpr c49
                   subst c49
                   have H1 : ((sumplaw42_below.f ((rd_T29 l0 x58_3).f0) ((rd_T29 l0 x46_2).f0)).bind fun t142 => (if t142 = true then (if ((rd_T29 l0 x58_3).f2) = 2 then (sumplaw42_UsageDoes.l1 kj31 l0 a1 a2 l3 t130 x10_2 l0 (l0.length : Int) x46_2 l0 (l0.length : Int) (wrap64 (x58_3 + 1)) ((rd_T29 l0 x46_2).f0) ((rd_T29 l0 x46_2).f1) ((rd_T29 l0 x46_2).f2) ((rd_T29 l0 x46_2).f3) ((rd_T29 l0 x46_2).f4) ((rd_T29 l0 x46_2).f0) x136001_3 (wrap64 (x136002_3 + 1)) x136003_3) else (sumplaw42_UsageDoes.l1 kj31 l0 a1 a2 l3 t130 x10_2 l0 (l0.length : Int) x46_2 l0 (l0.length : Int) (wrap64 (x58_3 + 1)) ((rd_T29 l0 x46_2).f0) ((rd_T29 l0 x46_2).f1) ((rd_T29 l0 x46_2).f2) ((rd_T29 l0 x46_2).f3) ((rd_T29 l0 x46_2).f4) ((rd_T29 l0 x46_2).f0) x136001_3 x136002_3 x136003_3)) else (sumplaw42_UsageDoes.l1 kj31 l0 a1 a2 l3 t130 x10_2 l0 (l0.length : Int) x46_2 l0 (l0.length : Int) (wrap64 (x58_3 + 1)) ((rd_T29 l0 x46_2).f0) ((rd_T29 l0 x46_2).f1) ((rd_T29 l0 x46_2).f2) ((rd_T29 l0 x46_2).f3) ((rd_T29 l0 x46_2).f4) ((rd_T29 l0 x46_2).f0) x136001_3 x136002_3 x136003_3))) = some r := by rw [if_neg (show ¬ (false = true) by decide)] at H; exact H
                   clear H
                   have H := H1
                   clear H1
                   replace H := Option.bind_eq_some_iff.mp H
                   obtain ⟨t142, A1020, H⟩ := H
                   replace H : (if t142 = true then (if ((rd_T29 l0 x58_3).f2) = 2 then (sumplaw42_UsageDoes.l1 kj31 l0 a1 a2 l3 t130 x10_2 l0 (l0.length : Int) x46_2 l0 (l0.length : Int) (wrap64 (x58_3 + 1)) ((rd_T29 l0 x46_2).f0) ((rd_T29 l0 x46_2).f1) ((rd_T29 l0 x46_2).f2) ((rd_T29 l0 x46_2).f3) ((rd_T29 l0 x46_2).f4) ((rd_T29 l0 x46_2).f0) x136001_3 (wrap64 (x136002_3 + 1)) x136003_3) else (sumplaw42_UsageDoes.l1 kj31 l0 a1 a2 l3 t130 x10_2 l0 (l0.length : Int) x46_2 l0 (l0.length : Int) (wrap64 (x58_3 + 1)) ((rd_T29 l0 x46_2).f0) ((rd_T29 l0 x46_2).f1) ((rd_T29 l0 x46_2).f2) ((rd_T29 l0 x46_2).f3) ((rd_T29 l0 x46_2).f4) ((rd_T29 l0 x46_2).f0) x136001_3 x136002_3 x136003_3)) else (sumplaw42_UsageDoes.l1 kj31 l0 a1 a2 l3 t130 x10_2 l0 (l0.length : Int) x46_2 l0 (l0.length : Int) (wrap64 (x58_3 + 1)) ((rd_T29 l0 x46_2).f0) ((rd_T29 l0 x46_2).f1) ((rd_T29 l0 x46_2).f2) ((rd_T29 l0 x46_2).f3) ((rd_T29 l0 x46_2).f4) ((rd_T29 l0 x46_2).f0) x136001_3 x136002_3 x136003_3)) = some r := H
                   have A102 := Aside0.mk A1020
                   clear A1020
                   by_cases c103 : t142 = true
                   ·subst c103
                    have H1 : (if ((rd_T29 l0 x58_3).f2) = 2 then (sumplaw42_UsageDoes.l1 kj31 l0 a1 a2 l3 t130 x10_2 l0 (l0.length : Int) x46_2 l0 (l0.length : Int) (wrap64 (x58_3 + 1)) ((rd_T29 l0 x46_2).f0) ((rd_T29 l0 x46_2).f1) ((rd_T29 l0 x46_2).f2) ((rd_T29 l0 x46_2).f3) ((rd_T29 l0 x46_2).f4) ((rd_T29 l0 x46_2).f0) x136001_3 (wrap64 (x136002_3 + 1)) x136003_3) else (sumplaw42_UsageDoes.l1 kj31 l0 a1 a2 l3 t130 x10_2 l0 (l0.length : Int) x46_2 l0 (l0.length : Int) (wrap64 (x58_3 + 1)) ((rd_T29 l0 x46_2).f0) ((rd_T29 l0 x46_2).f1) ((rd_T29 l0 x46_2).f2) ((rd_T29 l0 x46_2).f3) ((rd_T29 l0 x46_2).f4) ((rd_T29 l0 x46_2).f0) x136001_3 x136002_3 x136003_3)) = some r := by rw [if_pos rfl] at H; exact H
                    clear H
                    have H := H1
                    clear H1
                    by_cases c104 : ((rd_T29 l0 x58_3).f2) = 2
                    ·rw [if_pos c104] at H
                     have c104b0 : (((rd_T29 l0 x58_3).f2) == 2) = true := beq_iff_eq.mpr c104
                     have c104b1 : (((rd_T29 l0 x58_3).f2) != 2) = false := bne_eq_false_iff_eq.mpr c104
                     clear c104
                     have H' := Aside0.mk H
                     clear H
                     have hnb105 := NB138_134.out
                     have hnc105 := NB134_138.out
                     have hnb106 := NB138_135.out
                     have hnc106 := NB135_138.out
                     have hcz107_0 : wc.cell? ⟨gb138, 0, none⟩ = some (.string ((rd_T29 l0 x58_3).f0)) := (blk_cell BK138.out 0).trans rfl
                     have hcz107_1 : wc.cell? ⟨gb138, 1, none⟩ = some (.int .i64 ((rd_T29 l0 x58_3).f1)) := (blk_cell BK138.out 1).trans rfl
                     have hcz107_2 : wc.cell? ⟨gb138, 2, none⟩ = some (.int .i64 ((rd_T29 l0 x58_3).f2)) := (blk_cell BK138.out 2).trans rfl
                     have hcz107_3 : wc.cell? ⟨gb138, 3, none⟩ = some (.int .i64 ((rd_T29 l0 x58_3).f3)) := (blk_cell BK138.out 3).trans rfl
                     have hcz107_4 : wc.cell? ⟨gb138, 4, none⟩ = some (.slice A137_4 ((rd_T29 l0 x58_3).f4).length c137_4) := (blk_cell BK138.out 4).trans rfl
                     have hfz107_0 := blk_frozen BK138.out 0
                     have hfz107_1 := blk_frozen BK138.out 1
                     have hfz107_2 := blk_frozen BK138.out 2
                     have hfz107_3 := blk_frozen BK138.out 3
                     have hfz107_4 := blk_frozen BK138.out 4
                     have hnb108 := NB134_135.out
                     have hnc108 := NB135_134.out
                     have hcz109_0 : wc.cell? ⟨gb134, 0, none⟩ = some (.string ((rd_T29 l0 x46_2).f0)) := (blk_cell BK134.out 0).trans rfl
                     have hcz109_1 : wc.cell? ⟨gb134, 1, none⟩ = some (.int .i64 ((rd_T29 l0 x46_2).f1)) := (blk_cell BK134.out 1).trans rfl
                     have hcz109_2 : wc.cell? ⟨gb134, 2, none⟩ = some (.int .i64 ((rd_T29 l0 x46_2).f2)) := (blk_cell BK134.out 2).trans rfl
                     have hcz109_3 : wc.cell? ⟨gb134, 3, none⟩ = some (.int .i64 ((rd_T29 l0 x46_2).f3)) := (blk_cell BK134.out 3).trans rfl
                     have hcz109_4 : wc.cell? ⟨gb134, 4, none⟩ = some (.slice A133_4 ((rd_T29 l0 x46_2).f4).length c133_4) := (blk_cell BK134.out 4).trans rfl
                     have hfz109_0 := blk_frozen BK134.out 0
                     have hfz109_1 := blk_frozen BK134.out 1
                     have hfz109_2 := blk_frozen BK134.out 2
                     have hfz109_3 := blk_frozen BK134.out 3
                     have hfz109_4 := blk_frozen BK134.out 4
                     go_wp2_with (first | (go_at_call 11; (with_reducible refine (sumplaw42_below.calls ((rd_T29 l0 x58_3).f0) ((rd_T29 l0 x46_2).f0) true _ A102.out).mono ?_); rintro e w' ⟨rfl, ⟨nd, rfl⟩⟩; (try first | exact ⟨rfl, _, World.drewN_drewN _ _ _⟩ | exact ⟨rfl, _, Eq.trans (World.drewN_drewN _ _ _) (congrArg (World.drewN _) (Nat.add_assoc _ _ _))⟩); have hcz110_0 : wc.cell? ⟨gb135, 0, none⟩ = some (.string ((rd_T29 l0 x46_2).f0)) := (blk_cell BK135.out 0).trans rfl; have hcz110_1 : wc.cell? ⟨gb135, 1, none⟩ = some (.int .i64 x136001_3) := (blk_cell BK135.out 1).trans rfl; have hcz110_2 : wc.cell? ⟨gb135, 2, none⟩ = some (.int .i64 x136002_3) := (blk_cell BK135.out 2).trans rfl; have hcz110_3 : wc.cell? ⟨gb135, 3, none⟩ = some (.int .i64 x136003_3) := (blk_cell BK135.out 3).trans rfl; have hfz110_0 := blk_frozen BK135.out 0; have hfz110_1 := blk_frozen BK135.out 1; have hfz110_2 := blk_frozen BK135.out 2; have hfz110_3 := blk_frozen BK135.out 3))
                     repeat (go_quiet (first | (go_at_call 11; (with_reducible refine (sumplaw42_below.calls ((rd_T29 l0 x58_3).f0) ((rd_T29 l0 x46_2).f0) true _ A102.out).mono ?_); rintro e w' ⟨rfl, ⟨nd, rfl⟩⟩; (try first | exact ⟨rfl, _, World.drewN_drewN _ _ _⟩ | exact ⟨rfl, _, Eq.trans (World.drewN_drewN _ _ _) (congrArg (World.drewN _) (Nat.add_assoc _ _ _))⟩); have hcz110_0 : wc.cell? ⟨gb135, 0, none⟩ = some (.string ((rd_T29 l0 x46_2).f0)) := (blk_cell BK135.out 0).trans rfl; have hcz110_1 : wc.cell? ⟨gb135, 1, none⟩ = some (.int .i64 x136001_3) := (blk_cell BK135.out 1).trans rfl; have hcz110_2 : wc.cell? ⟨gb135, 2, none⟩ = some (.int .i64 x136002_3) := (blk_cell BK135.out 2).trans rfl; have hcz110_3 : wc.cell? ⟨gb135, 3, none⟩ = some (.int .i64 x136003_3) := (blk_cell BK135.out 3).trans rfl; have hfz110_0 := blk_frozen BK135.out 0; have hfz110_1 := blk_frozen BK135.out 1; have hfz110_2 := blk_frozen BK135.out 2; have hfz110_3 := blk_frozen BK135.out 3)); try go_wp2_with (first | (go_at_call 11; (with_reducible refine (sumplaw42_below.calls ((rd_T29 l0 x58_3).f0) ((rd_T29 l0 x46_2).f0) true _ A102.out).mono ?_); rintro e w' ⟨rfl, ⟨nd, rfl⟩⟩; (try first | exact ⟨rfl, _, World.drewN_drewN _ _ _⟩ | exact ⟨rfl, _, Eq.trans (World.drewN_drewN _ _ _) (congrArg (World.drewN _) (Nat.add_assoc _ _ _))⟩); have hcz110_0 : wc.cell? ⟨gb135, 0, none⟩ = some (.string ((rd_T29 l0 x46_2).f0)) := (blk_cell BK135.out 0).trans rfl; have hcz110_1 : wc.cell? ⟨gb135, 1, none⟩ = some (.int .i64 x136001_3) := (blk_cell BK135.out 1).trans rfl; have hcz110_2 : wc.cell? ⟨gb135, 2, none⟩ = some (.int .i64 x136002_3) := (blk_cell BK135.out 2).trans rfl; have hcz110_3 : wc.cell? ⟨gb135, 3, none⟩ = some (.int .i64 x136003_3) := (blk_cell BK135.out 3).trans rfl; have hfz110_0 := blk_frozen BK135.out 0; have hfz110_1 := blk_frozen BK135.out 1; have hfz110_2 := blk_frozen BK135.out 2; have hfz110_3 := blk_frozen BK135.out 3)))
                     go_roundg kj31
                     case measure => have := HJ6.out; have := HK2.out; have := HK3.out; have := HJ31.out; omega
                     case rel => exact ⟨(wrap64 (x58_3 + 1)), (x136001_3), (wrap64 (x136002_3 + 1)), (x136003_3), (by first | rfl | (simp; done) | (simp [*]; done)), H', ⟨by have := HJ6.out; have := HK2.out; have := HK3.out; have := HJ31.out; omega⟩, ⟨by (with_reducible repeat (first | apply Kd.R_alloc | apply Kd.R_drewN | apply Kd.R_drew)); exact Kd.R_mono (Kd.R_far (p := ⟨gb135, 2, none⟩) (Kd.R_mono HO_9.out (fun k_ hk => (⟨hk, hk⟩ : _ ∧ k_ ≠ gb135))) (fun _ hk => hk.2) (.int .i64 (wrap64 (x136002_3 + 1)))) (fun _ hk => hk.1)⟩, ⟨by (with_reducible repeat (first | refine blk_drewN ?_ _ | refine blk_drew ?_ | refine blk_alloc ?_ _)); refine blk_far ?_ NB134_135.out _; (with_reducible repeat (first | refine blk_drewN ?_ _ | refine blk_drew ?_ | refine blk_alloc ?_ _)); exact BK134.out⟩, ⟨by (with_reducible repeat (first | refine blk_drewN ?_ _ | refine blk_drew ?_ | refine blk_alloc ?_ _)); refine blk_put (cs := #[.string ((rd_T29 l0 x46_2).f0), .int .i64 x136001_3, .int .i64 x136002_3, .int .i64 x136003_3]) ?_ 2 _ rfl; (with_reducible repeat (first | refine blk_drewN ?_ _ | refine blk_drew ?_ | refine blk_alloc ?_ _)); exact BK135.out⟩, ⟨by repeat (first | (with_reducible first | exact HB.out | apply below_alloc | apply pw_below_drewN | apply below_drew1 | refine below_set ?_ GE134.out | refine below_set ?_ GE135.out | refine below_set ?_ GE138.out) | exact HB.out)⟩⟩
                    ·rw [if_neg c104] at H
                     have c104b0 : (((rd_T29 l0 x58_3).f2) == 2) = false := beq_eq_false_iff_ne.mpr c104
                     have c104b1 : (((rd_T29 l0 x58_3).f2) != 2) = true := bne_iff_ne.mpr c104
                     have H' := Aside0.mk H
                     clear H
                     have hnb111 := NB138_134.out
                     have hnc111 := NB134_138.out
                     have hnb112 := NB138_135.out
                     have hnc112 := NB135_138.out
                     have hcz113_0 : wc.cell? ⟨gb138, 0, none⟩ = some (.string ((rd_T29 l0 x58_3).f0)) := (blk_cell BK138.out 0).trans rfl
                     have hcz113_1 : wc.cell? ⟨gb138, 1, none⟩ = some (.int .i64 ((rd_T29 l0 x58_3).f1)) := (blk_cell BK138.out 1).trans rfl
                     have hcz113_2 : wc.cell? ⟨gb138, 2, none⟩ = some (.int .i64 ((rd_T29 l0 x58_3).f2)) := (blk_cell BK138.out 2).trans rfl
                     have hcz113_3 : wc.cell? ⟨gb138, 3, none⟩ = some (.int .i64 ((rd_T29 l0 x58_3).f3)) := (blk_cell BK138.out 3).trans rfl
                     have hcz113_4 : wc.cell? ⟨gb138, 4, none⟩ = some (.slice A137_4 ((rd_T29 l0 x58_3).f4).length c137_4) := (blk_cell BK138.out 4).trans rfl
                     have hfz113_0 := blk_frozen BK138.out 0
                     have hfz113_1 := blk_frozen BK138.out 1
                     have hfz113_2 := blk_frozen BK138.out 2
                     have hfz113_3 := blk_frozen BK138.out 3
                     have hfz113_4 := blk_frozen BK138.out 4
                     have hnb114 := NB134_135.out
                     have hnc114 := NB135_134.out
                     have hcz115_0 : wc.cell? ⟨gb134, 0, none⟩ = some (.string ((rd_T29 l0 x46_2).f0)) := (blk_cell BK134.out 0).trans rfl
                     have hcz115_1 : wc.cell? ⟨gb134, 1, none⟩ = some (.int .i64 ((rd_T29 l0 x46_2).f1)) := (blk_cell BK134.out 1).trans rfl
                     have hcz115_2 : wc.cell? ⟨gb134, 2, none⟩ = some (.int .i64 ((rd_T29 l0 x46_2).f2)) := (blk_cell BK134.out 2).trans rfl
                     have hcz115_3 : wc.cell? ⟨gb134, 3, none⟩ = some (.int .i64 ((rd_T29 l0 x46_2).f3)) := (blk_cell BK134.out 3).trans rfl
                     have hcz115_4 : wc.cell? ⟨gb134, 4, none⟩ = some (.slice A133_4 ((rd_T29 l0 x46_2).f4).length c133_4) := (blk_cell BK134.out 4).trans rfl
                     have hfz115_0 := blk_frozen BK134.out 0
                     have hfz115_1 := blk_frozen BK134.out 1
                     have hfz115_2 := blk_frozen BK134.out 2
                     have hfz115_3 := blk_frozen BK134.out 3
                     have hfz115_4 := blk_frozen BK134.out 4
                     go_wp2_with (first | (go_at_call 11; (with_reducible refine (sumplaw42_below.calls ((rd_T29 l0 x58_3).f0) ((rd_T29 l0 x46_2).f0) true _ A102.out).mono ?_); rintro e w' ⟨rfl, ⟨nd, rfl⟩⟩; (try first | exact ⟨rfl, _, World.drewN_drewN _ _ _⟩ | exact ⟨rfl, _, Eq.trans (World.drewN_drewN _ _ _) (congrArg (World.drewN _) (Nat.add_assoc _ _ _))⟩)))
                     repeat (go_quiet (first | (go_at_call 11; (with_reducible refine (sumplaw42_below.calls ((rd_T29 l0 x58_3).f0) ((rd_T29 l0 x46_2).f0) true _ A102.out).mono ?_); rintro e w' ⟨rfl, ⟨nd, rfl⟩⟩; (try first | exact ⟨rfl, _, World.drewN_drewN _ _ _⟩ | exact ⟨rfl, _, Eq.trans (World.drewN_drewN _ _ _) (congrArg (World.drewN _) (Nat.add_assoc _ _ _))⟩))); try go_wp2_with (first | (go_at_call 11; (with_reducible refine (sumplaw42_below.calls ((rd_T29 l0 x58_3).f0) ((rd_T29 l0 x46_2).f0) true _ A102.out).mono ?_); rintro e w' ⟨rfl, ⟨nd, rfl⟩⟩; (try first | exact ⟨rfl, _, World.drewN_drewN _ _ _⟩ | exact ⟨rfl, _, Eq.trans (World.drewN_drewN _ _ _) (congrArg (World.drewN _) (Nat.add_assoc _ _ _))⟩))))
                     go_roundg kj31
                     case measure => have := HJ6.out; have := HK2.out; have := HK3.out; have := HJ31.out; omega
                     case rel => exact ⟨(wrap64 (x58_3 + 1)), (x136001_3), (x136002_3), (x136003_3), (by first | rfl | (simp; done) | (simp [*]; done)), H', ⟨by have := HJ6.out; have := HK2.out; have := HK3.out; have := HJ31.out; omega⟩, ⟨by (with_reducible repeat (first | apply Kd.R_alloc | apply Kd.R_drewN | apply Kd.R_drew)); exact HO_9.out⟩, ⟨by (with_reducible repeat (first | refine blk_drewN ?_ _ | refine blk_drew ?_ | refine blk_alloc ?_ _)); exact BK134.out⟩, ⟨by (with_reducible repeat (first | refine blk_drewN ?_ _ | refine blk_drew ?_ | refine blk_alloc ?_ _)); exact BK135.out⟩, ⟨by repeat (first | (with_reducible first | exact HB.out | apply below_alloc | apply pw_below_drewN | apply below_drew1 | refine below_set ?_ GE134.out | refine below_set ?_ GE135.out | refine below_set ?_ GE138.out) | exact HB.out)⟩⟩
                   ·replace c103 := Bool.eq_false_iff.mpr c103
                    subst c103
                    have H1 : (sumplaw42_UsageDoes.l1 kj31 l0 a1 a2 l3 t130 x10_2 l0 (l0.length : Int) x46_2 l0 (l0.length : Int) (wrap64 (x58_3 + 1)) ((rd_T29 l0 x46_2).f0) ((rd_T29 l0 x46_2).f1) ((rd_T29 l0 x46_2).f2) ((rd_T29 l0 x46_2).f3) ((rd_T29 l0 x46_2).f4) ((rd_T29 l0 x46_2).f0) x136001_3 x136002_3 x136003_3) = some r := by rw [if_neg (show ¬ (false = true) by decide)] at H; exact H
                    clear H
                    have H := H1
                    clear H1
                    have H' := Aside0.mk H
                    clear H
                    have hnb116 := NB138_134.out
                    have hnc116 := NB134_138.out
                    have hnb117 := NB138_135.out
                    have hnc117 := NB135_138.out
                    have hcz118_0 : wc.cell? ⟨gb138, 0, none⟩ = some (.string ((rd_T29 l0 x58_3).f0)) := (blk_cell BK138.out 0).trans rfl
                    have hcz118_1 : wc.cell? ⟨gb138, 1, none⟩ = some (.int .i64 ((rd_T29 l0 x58_3).f1)) := (blk_cell BK138.out 1).trans rfl
                    have hcz118_2 : wc.cell? ⟨gb138, 2, none⟩ = some (.int .i64 ((rd_T29 l0 x58_3).f2)) := (blk_cell BK138.out 2).trans rfl
                    have hcz118_3 : wc.cell? ⟨gb138, 3, none⟩ = some (.int .i64 ((rd_T29 l0 x58_3).f3)) := (blk_cell BK138.out 3).trans rfl
                    have hcz118_4 : wc.cell? ⟨gb138, 4, none⟩ = some (.slice A137_4 ((rd_T29 l0 x58_3).f4).length c137_4) := (blk_cell BK138.out 4).trans rfl
                    have hfz118_0 := blk_frozen BK138.out 0
                    have hfz118_1 := blk_frozen BK138.out 1
                    have hfz118_2 := blk_frozen BK138.out 2
                    have hfz118_3 := blk_frozen BK138.out 3
                    have hfz118_4 := blk_frozen BK138.out 4
                    have hnb119 := NB134_135.out
                    have hnc119 := NB135_134.out
                    have hcz120_0 : wc.cell? ⟨gb134, 0, none⟩ = some (.string ((rd_T29 l0 x46_2).f0)) := (blk_cell BK134.out 0).trans rfl
                    have hcz120_1 : wc.cell? ⟨gb134, 1, none⟩ = some (.int .i64 ((rd_T29 l0 x46_2).f1)) := (blk_cell BK134.out 1).trans rfl
                    have hcz120_2 : wc.cell? ⟨gb134, 2, none⟩ = some (.int .i64 ((rd_T29 l0 x46_2).f2)) := (blk_cell BK134.out 2).trans rfl
                    have hcz120_3 : wc.cell? ⟨gb134, 3, none⟩ = some (.int .i64 ((rd_T29 l0 x46_2).f3)) := (blk_cell BK134.out 3).trans rfl
                    have hcz120_4 : wc.cell? ⟨gb134, 4, none⟩ = some (.slice A133_4 ((rd_T29 l0 x46_2).f4).length c133_4) := (blk_cell BK134.out 4).trans rfl
                    have hfz120_0 := blk_frozen BK134.out 0
                    have hfz120_1 := blk_frozen BK134.out 1
                    have hfz120_2 := blk_frozen BK134.out 2
                    have hfz120_3 := blk_frozen BK134.out 3
                    have hfz120_4 := blk_frozen BK134.out 4
                    go_wp2_with (first | (go_at_call 11; (with_reducible refine (sumplaw42_below.calls ((rd_T29 l0 x58_3).f0) ((rd_T29 l0 x46_2).f0) false _ A102.out).mono ?_); rintro e w' ⟨rfl, ⟨nd, rfl⟩⟩; (try first | exact ⟨rfl, _, World.drewN_drewN _ _ _⟩ | exact ⟨rfl, _, Eq.trans (World.drewN_drewN _ _ _) (congrArg (World.drewN _) (Nat.add_assoc _ _ _))⟩)))
                    repeat (go_quiet (first | (go_at_call 11; (with_reducible refine (sumplaw42_below.calls ((rd_T29 l0 x58_3).f0) ((rd_T29 l0 x46_2).f0) false _ A102.out).mono ?_); rintro e w' ⟨rfl, ⟨nd, rfl⟩⟩; (try first | exact ⟨rfl, _, World.drewN_drewN _ _ _⟩ | exact ⟨rfl, _, Eq.trans (World.drewN_drewN _ _ _) (congrArg (World.drewN _) (Nat.add_assoc _ _ _))⟩))); try go_wp2_with (first | (go_at_call 11; (with_reducible refine (sumplaw42_below.calls ((rd_T29 l0 x58_3).f0) ((rd_T29 l0 x46_2).f0) false _ A102.out).mono ?_); rintro e w' ⟨rfl, ⟨nd, rfl⟩⟩; (try first | exact ⟨rfl, _, World.drewN_drewN _ _ _⟩ | exact ⟨rfl, _, Eq.trans (World.drewN_drewN _ _ _) (congrArg (World.drewN _) (Nat.add_assoc _ _ _))⟩))))
                    go_roundg kj31
                    case measure => have := HJ6.out; have := HK2.out; have := HK3.out; have := HJ31.out; omega
                    case rel => exact ⟨(wrap64 (x58_3 + 1)), (x136001_3), (x136002_3), (x136003_3), (by first | rfl | (simp; done) | (simp [*]; done)), H', ⟨by have := HJ6.out; have := HK2.out; have := HK3.out; have := HJ31.out; omega⟩, ⟨by (with_reducible repeat (first | apply Kd.R_alloc | apply Kd.R_drewN | apply Kd.R_drew)); exact HO_9.out⟩, ⟨by (with_reducible repeat (first | refine blk_drewN ?_ _ | refine blk_drew ?_ | refine blk_alloc ?_ _)); exact BK134.out⟩, ⟨by (with_reducible repeat (first | refine blk_drewN ?_ _ | refine blk_drew ?_ | refine blk_alloc ?_ _)); exact BK135.out⟩, ⟨by repeat (first | (with_reducible first | exact HB.out | apply below_alloc | apply pw_below_drewN | apply below_drew1 | refine below_set ?_ GE134.out | refine below_set ?_ GE135.out | refine below_set ?_ GE138.out) | exact HB.out)⟩⟩
               ·rw [if_neg c31] at H
                exact absurd H (by simp)
              ·rw [if_neg c30] at H
               exact absurd H (by simp)
             ·rw [if_neg c29] at H
              have c29b0 : decide (x58_3 < (l0.length : Int)) = false := decide_eq_false c29
              clear c29
              by_cases c121 : x10_2 ≥ (t130.length : Int)
              ·rw [if_pos c121] at H
               have c121b0 : decide ((t130.length : Int) ≤ x10_2) = true := decide_eq_true c121
               clear c121
               exact absurd ((Option.some.inj H).trans HT.out) (by simp)
              ·rw [if_neg c121] at H
               have c121b0 : decide ((t130.length : Int) ≤ x10_2) = false := decide_eq_false c121
               clear c121
               by_cases c122 : 0 ≤ x10_2
               ·rw [if_pos c122] at H
                have c122b0 : decide (0 ≤ x10_2) = true := decide_eq_true c122
                clear c122
                by_cases c123 : x10_2 < (t130.length : Int)
                ·rw [if_pos c123] at H
                 have c123b0 : decide (x10_2 < (t130.length : Int)) = true := decide_eq_true c123
                 clear c123
                 by_cases c124 : (((rd_T31 t130 x10_2).f0).toList) = ((rd_T29 l0 x46_2).f0).toList
                 ·rw [if_pos c124] at H
                  have c124b0 : ((((rd_T31 t130 x10_2).f0).toList) == ((rd_T29 l0 x46_2).f0).toList) = true := beq_iff_eq.mpr c124
                  have c124b1 : ((((rd_T31 t130 x10_2).f0).toList) != ((rd_T29 l0 x46_2).f0).toList) = false := bne_eq_false_iff_eq.mpr c124
                  clear c124
                  by_cases c125 : ((rd_T31 t130 x10_2).f1) = x136001_3
                  ·rw [if_pos c125] at H
                   have c125b0 : (((rd_T31 t130 x10_2).f1) == x136001_3) = true := beq_iff_eq.mpr c125
                   have c125b1 : (((rd_T31 t130 x10_2).f1) != x136001_3) = false := bne_eq_false_iff_eq.mpr c125
                   clear c125
                   by_cases c126 : ((rd_T31 t130 x10_2).f2) = x136002_3
                   ·rw [if_pos c126] at H
                    have c126b0 : (((rd_T31 t130 x10_2).f2) == x136002_3) = true := beq_iff_eq.mpr c126
                    have c126b1 : (((rd_T31 t130 x10_2).f2) != x136002_3) = false := bne_eq_false_iff_eq.mpr c126
                    clear c126
                    by_cases c127 : ((rd_T31 t130 x10_2).f3) = x136003_3
                    ·rw [if_pos c127] at H
                     have c127b0 : (((rd_T31 t130 x10_2).f3) == x136003_3) = true := beq_iff_eq.mpr c127
                     have c127b1 : (((rd_T31 t130 x10_2).f3) != x136003_3) = false := bne_eq_false_iff_eq.mpr c127
                     clear c127
                     have H' := Aside0.mk H
                     clear H
                     obtain ⟨Ao128, co128, eo128⟩ := Kd.R_slice HO_9.out
                     subst eo128
                     have p136 : 0 ≤ (x10_2 : Int) := of_decide_eq_true (by first | (with_reducible assumption) | assumption)
                     have q136 : x10_2 < (t130.length : Int) := of_decide_eq_true (by first | (with_reducible assumption) | assumption)
                     obtain ⟨ad136, e136, hx136_0, hx136_1, hx136_2, hx136_3⟩ := at_T31 (Kd.R_reads' HO_9.out).2.2 x10_2 p136 q136
                     cases e136
                     replace p136 := eq_true p136
                     replace q136 := eq_true q136
                     have hnb129 := NB135_134.out
                     have hnc129 := NB134_135.out
                     have hcz130_0 : wr.cell? ⟨gb135, 0, none⟩ = some (.string ((rd_T29 l0 x46_2).f0)) := (blk_cell BK135.out 0).trans rfl
                     have hcz130_1 : wr.cell? ⟨gb135, 1, none⟩ = some (.int .i64 x136001_3) := (blk_cell BK135.out 1).trans rfl
                     have hcz130_2 : wr.cell? ⟨gb135, 2, none⟩ = some (.int .i64 x136002_3) := (blk_cell BK135.out 2).trans rfl
                     have hcz130_3 : wr.cell? ⟨gb135, 3, none⟩ = some (.int .i64 x136003_3) := (blk_cell BK135.out 3).trans rfl
                     have hfz130_0 := blk_frozen BK135.out 0
                     have hfz130_1 := blk_frozen BK135.out 1
                     have hfz130_2 := blk_frozen BK135.out 2
                     have hfz130_3 := blk_frozen BK135.out 3
                     go_wp2
                     repeat (go_quiet (fail); try go_wp2)
                     go_roundg k3
                     case measure => have := HJ6.out; have := HK2.out; have := HK3.out; omega
                     case rel => exact ⟨(wrap64 (x10_2 + 1)), (wrap64 (x46_2 + 1)), (by first | rfl | (simp; done) | (simp [*]; done)), (by first | rfl | (simp; done) | (simp [*]; done)), H', ⟨by have := HJ6.out; have := HK2.out; have := HK3.out; omega⟩, ⟨by (with_reducible repeat (first | apply Kd.R_alloc | apply Kd.R_drewN | apply Kd.R_drew)); exact Kd.R_mono HO_9.out (fun _ hk => trivial)⟩, ⟨by repeat (first | (with_reducible first | exact HB.out | apply below_alloc | apply pw_below_drewN | apply below_drew1 | refine below_set ?_ GE134.out | refine below_set ?_ GE135.out) | exact HB.out)⟩⟩
                    ·rw [if_neg c127] at H
                     have c127b0 : (((rd_T31 t130 x10_2).f3) == x136003_3) = false := beq_eq_false_iff_ne.mpr c127
                     have c127b1 : (((rd_T31 t130 x10_2).f3) != x136003_3) = true := bne_iff_ne.mpr c127
                     exact absurd ((Option.some.inj H).trans HT.out) (by simp)
                   ·rw [if_neg c126] at H
                    have c126b0 : (((rd_T31 t130 x10_2).f2) == x136002_3) = false := beq_eq_false_iff_ne.mpr c126
                    have c126b1 : (((rd_T31 t130 x10_2).f2) != x136002_3) = true := bne_iff_ne.mpr c126
                    exact absurd ((Option.some.inj H).trans HT.out) (by simp)
                  ·rw [if_neg c125] at H
                   have c125b0 : (((rd_T31 t130 x10_2).f1) == x136001_3) = false := beq_eq_false_iff_ne.mpr c125
                   have c125b1 : (((rd_T31 t130 x10_2).f1) != x136001_3) = true := bne_iff_ne.mpr c125
                   exact absurd ((Option.some.inj H).trans HT.out) (by simp)
                 ·rw [if_neg c124] at H
                  have c124b0 : ((((rd_T31 t130 x10_2).f0).toList) == ((rd_T29 l0 x46_2).f0).toList) = false := beq_eq_false_iff_ne.mpr c124
                  have c124b1 : ((((rd_T31 t130 x10_2).f0).toList) != ((rd_T29 l0 x46_2).f0).toList) = true := bne_iff_ne.mpr c124
                  exact absurd ((Option.some.inj H).trans HT.out) (by simp)
                ·rw [if_neg c123] at H
                 exact absurd H (by simp)
               ·rw [if_neg c122] at H
                exact absurd H (by simp)
          ·rw [if_neg c23] at H
           have c23b0 : (((rd_T29 l0 x46_2).f2) == 2) = false := beq_eq_false_iff_ne.mpr c23
           have c23b1 : (((rd_T29 l0 x46_2).f2) != 2) = true := bne_iff_ne.mpr c23
           have H' := Aside0.mk H
           clear H
           have p133 : 0 ≤ (x46_2 : Int) := of_decide_eq_true (by first | (with_reducible assumption) | assumption)
           have q133 : x46_2 < (l0.length : Int) := of_decide_eq_true (by first | (with_reducible assumption) | assumption)
           obtain ⟨ad133, A133_4, c133_4, e133, hx133_0, hx133_1, hx133_2, hx133_3, hx133_4, hl133_4, hi133_4⟩ := at_T29 HR0.out x46_2 p133 q133
           cases e133
           replace hx133_0 := (HB.out.cell (World.block_lt_of_cell? w _ hx133_0)).trans hx133_0
           replace hx133_1 := (HB.out.cell (World.block_lt_of_cell? w _ hx133_1)).trans hx133_1
           replace hx133_2 := (HB.out.cell (World.block_lt_of_cell? w _ hx133_2)).trans hx133_2
           replace hx133_3 := (HB.out.cell (World.block_lt_of_cell? w _ hx133_3)).trans hx133_3
           replace hx133_4 := (HB.out.cell (World.block_lt_of_cell? w _ hx133_4)).trans hx133_4
           have HR133_4 := Aside0.mk hi133_4
           have HC133_4 := Aside0.mk hl133_4
           clear hi133_4 hl133_4
           replace p133 := eq_true p133
           replace q133 := eq_true q133
           go_wp2_with (first | ((with_reducible refine gate_dst (N := 12) rfl ?_); (try (refine gate_guard (by rfl) ?_; dsimp only)); refine box_event ?hg (N := 12) ?hd (cs := #[.string (⟨#[]⟩ : ByteArray), .int .i64 0, .int .i64 0, .int .i64 0, .slice none 0 0]) (t := 29) ?hr ?_; (case hd => rfl); (case hg => rfl); (case hr => first | (go_simp; done) | (go_simp; rfl)); intro gb134 hg w131 hbox hb; have n0_ := Aside0.mk (Kd.R_below (by (with_reducible repeat (first | apply Kd.R_alloc | apply Kd.R_drewN | apply Kd.R_drew)); exact HO_9.out) hb); have n1_ := Aside0.mk (below_step (by repeat (first | (with_reducible first | exact HB.out | apply below_alloc | apply pw_below_drewN | apply below_drew1) | exact HB.out)) hb); have n2_ := Aside0.mk (hbox); have n3_ := Aside0.mk ((by rw [hg]; exact (below_size (by repeat (first | (with_reducible first | exact HB.out | apply below_alloc | apply pw_below_drewN | apply below_drew1) | exact HB.out))) : w.heap.size ≤ gb134)); have n4_ := Aside0.mk ((by rw [hg]; exact (below_size (by repeat (first | (with_reducible first | exact HB.out | apply below_alloc | apply pw_below_drewN | apply below_drew1) | exact HB.out))) : w.heap.size ≤ gb134)); clear HO_9; clear HB; have HO_9 := n0_; have HB := n1_; have BK134 := n2_; have GW134 := n3_; have GE134 := n4_; clear n0_ n1_ n2_ n3_ n4_; clear hb hbox hg; have hcz132_0 : w131.cell? ⟨gb134, 0, none⟩ = some (.string (⟨#[]⟩ : ByteArray)) := (blk_cell BK134.out 0).trans rfl; have hcz132_1 : w131.cell? ⟨gb134, 1, none⟩ = some (.int .i64 0) := (blk_cell BK134.out 1).trans rfl; have hcz132_2 : w131.cell? ⟨gb134, 2, none⟩ = some (.int .i64 0) := (blk_cell BK134.out 2).trans rfl; have hcz132_3 : w131.cell? ⟨gb134, 3, none⟩ = some (.int .i64 0) := (blk_cell BK134.out 3).trans rfl; have hcz132_4 : w131.cell? ⟨gb134, 4, none⟩ = some (.slice none 0 0) := (blk_cell BK134.out 4).trans rfl; have hfz132_0 := blk_frozen BK134.out 0; have hfz132_1 := blk_frozen BK134.out 1; have hfz132_2 := blk_frozen BK134.out 2; have hfz132_3 := blk_frozen BK134.out 3; have hfz132_4 := blk_frozen BK134.out 4))
           repeat (go_quiet (first | ((with_reducible refine gate_dst (N := 12) rfl ?_); (try (refine gate_guard (by rfl) ?_; dsimp only)); refine box_event ?hg (N := 12) ?hd (cs := #[.string (⟨#[]⟩ : ByteArray), .int .i64 0, .int .i64 0, .int .i64 0, .slice none 0 0]) (t := 29) ?hr ?_; (case hd => rfl); (case hg => rfl); (case hr => first | (go_simp; done) | (go_simp; rfl)); intro gb134 hg w131 hbox hb; have n0_ := Aside0.mk (Kd.R_below (by (with_reducible repeat (first | apply Kd.R_alloc | apply Kd.R_drewN | apply Kd.R_drew)); exact HO_9.out) hb); have n1_ := Aside0.mk (below_step (by repeat (first | (with_reducible first | exact HB.out | apply below_alloc | apply pw_below_drewN | apply below_drew1) | exact HB.out)) hb); have n2_ := Aside0.mk (hbox); have n3_ := Aside0.mk ((by rw [hg]; exact (below_size (by repeat (first | (with_reducible first | exact HB.out | apply below_alloc | apply pw_below_drewN | apply below_drew1) | exact HB.out))) : w.heap.size ≤ gb134)); have n4_ := Aside0.mk ((by rw [hg]; exact (below_size (by repeat (first | (with_reducible first | exact HB.out | apply below_alloc | apply pw_below_drewN | apply below_drew1) | exact HB.out))) : w.heap.size ≤ gb134)); clear HO_9; clear HB; have HO_9 := n0_; have HB := n1_; have BK134 := n2_; have GW134 := n3_; have GE134 := n4_; clear n0_ n1_ n2_ n3_ n4_; clear hb hbox hg; have hcz132_0 : w131.cell? ⟨gb134, 0, none⟩ = some (.string (⟨#[]⟩ : ByteArray)) := (blk_cell BK134.out 0).trans rfl; have hcz132_1 : w131.cell? ⟨gb134, 1, none⟩ = some (.int .i64 0) := (blk_cell BK134.out 1).trans rfl; have hcz132_2 : w131.cell? ⟨gb134, 2, none⟩ = some (.int .i64 0) := (blk_cell BK134.out 2).trans rfl; have hcz132_3 : w131.cell? ⟨gb134, 3, none⟩ = some (.int .i64 0) := (blk_cell BK134.out 3).trans rfl; have hcz132_4 : w131.cell? ⟨gb134, 4, none⟩ = some (.slice none 0 0) := (blk_cell BK134.out 4).trans rfl; have hfz132_0 := blk_frozen BK134.out 0; have hfz132_1 := blk_frozen BK134.out 1; have hfz132_2 := blk_frozen BK134.out 2; have hfz132_3 := blk_frozen BK134.out 3; have hfz132_4 := blk_frozen BK134.out 4)); try go_wp2_with (first | ((with_reducible refine gate_dst (N := 12) rfl ?_); (try (refine gate_guard (by rfl) ?_; dsimp only)); refine box_event ?hg (N := 12) ?hd (cs := #[.string (⟨#[]⟩ : ByteArray), .int .i64 0, .int .i64 0, .int .i64 0, .slice none 0 0]) (t := 29) ?hr ?_; (case hd => rfl); (case hg => rfl); (case hr => first | (go_simp; done) | (go_simp; rfl)); intro gb134 hg w131 hbox hb; have n0_ := Aside0.mk (Kd.R_below (by (with_reducible repeat (first | apply Kd.R_alloc | apply Kd.R_drewN | apply Kd.R_drew)); exact HO_9.out) hb); have n1_ := Aside0.mk (below_step (by repeat (first | (with_reducible first | exact HB.out | apply below_alloc | apply pw_below_drewN | apply below_drew1) | exact HB.out)) hb); have n2_ := Aside0.mk (hbox); have n3_ := Aside0.mk ((by rw [hg]; exact (below_size (by repeat (first | (with_reducible first | exact HB.out | apply below_alloc | apply pw_below_drewN | apply below_drew1) | exact HB.out))) : w.heap.size ≤ gb134)); have n4_ := Aside0.mk ((by rw [hg]; exact (below_size (by repeat (first | (with_reducible first | exact HB.out | apply below_alloc | apply pw_below_drewN | apply below_drew1) | exact HB.out))) : w.heap.size ≤ gb134)); clear HO_9; clear HB; have HO_9 := n0_; have HB := n1_; have BK134 := n2_; have GW134 := n3_; have GE134 := n4_; clear n0_ n1_ n2_ n3_ n4_; clear hb hbox hg; have hcz132_0 : w131.cell? ⟨gb134, 0, none⟩ = some (.string (⟨#[]⟩ : ByteArray)) := (blk_cell BK134.out 0).trans rfl; have hcz132_1 : w131.cell? ⟨gb134, 1, none⟩ = some (.int .i64 0) := (blk_cell BK134.out 1).trans rfl; have hcz132_2 : w131.cell? ⟨gb134, 2, none⟩ = some (.int .i64 0) := (blk_cell BK134.out 2).trans rfl; have hcz132_3 : w131.cell? ⟨gb134, 3, none⟩ = some (.int .i64 0) := (blk_cell BK134.out 3).trans rfl; have hcz132_4 : w131.cell? ⟨gb134, 4, none⟩ = some (.slice none 0 0) := (blk_cell BK134.out 4).trans rfl; have hfz132_0 := blk_frozen BK134.out 0; have hfz132_1 := blk_frozen BK134.out 1; have hfz132_2 := blk_frozen BK134.out 2; have hfz132_3 := blk_frozen BK134.out 3; have hfz132_4 := blk_frozen BK134.out 4)))
           go_roundg k2
           case measure => have := HJ6.out; have := HK2.out; omega
           case rel => exact ⟨(x10_2), (wrap64 (x46_2 + 1)), (by first | rfl | (simp; done) | (simp [*]; done)), (by first | rfl | (simp; done) | (simp [*]; done)), H', ⟨by have := HJ6.out; have := HK2.out; omega⟩, ⟨by (with_reducible repeat (first | apply Kd.R_alloc | apply Kd.R_drewN | apply Kd.R_drew)); exact Kd.R_mono (Kd.R_far (p := ⟨gb134, 4, none⟩) (Kd.R_far (p := ⟨gb134, 3, none⟩) (Kd.R_far (p := ⟨gb134, 2, none⟩) (Kd.R_far (p := ⟨gb134, 1, none⟩) (Kd.R_far (p := ⟨gb134, 0, none⟩) (Kd.R_types HO_9.out BK134.out (by decide)) (fun _ hk => hk.2) (.string ((rd_T29 l0 x46_2).f0))) (fun _ hk => hk.2) (.int .i64 ((rd_T29 l0 x46_2).f1))) (fun _ hk => hk.2) (.int .i64 ((rd_T29 l0 x46_2).f2))) (fun _ hk => hk.2) (.int .i64 ((rd_T29 l0 x46_2).f3))) (fun _ hk => hk.2) (.slice A133_4 ((rd_T29 l0 x46_2).f4).length c133_4)) (fun _ hk => trivial)⟩, ⟨by repeat (first | (with_reducible first | exact HB.out | apply below_alloc | apply pw_below_drewN | apply below_drew1 | refine below_set ?_ GE134.out) | exact HB.out)⟩⟩
         ·rw [if_neg c22] at H
          exact absurd H (by simp)
        ·rw [if_neg c21] at H
         exact absurd H (by simp)
       ·rw [if_neg c20] at H
        have c20b0 : decide (x46_2 < (l0.length : Int)) = false := decide_eq_false c20
        clear c20
        have H' := Aside0.mk H
        clear H
        go_wp2_with (first | ((with_reducible refine gate_dst (N := 16) rfl ?_); (try (refine gate_guard (by rfl) ?_; dsimp only)); refine box_event ?hg (N := 16) ?hd (cs := #[.string (⟨#[]⟩ : ByteArray), .int .i64 0, .int .i64 0, .int .i64 0]) (t := 31) ?hr ?_; (case hd => rfl); (case hg => rfl); (case hr => first | (go_simp; done) | (go_simp; rfl)); intro gb143 hg w133 hbox hb; have n0_ := Aside0.mk (Kd.R_below (Kd.R_elderB (by (with_reducible repeat (first | apply Kd.R_alloc | apply Kd.R_drewN | apply Kd.R_drew)); exact HO_9.out) gb143 (Nat.le_of_eq hg.symm)) hb); have n1_ := Aside0.mk (below_step (by repeat (first | (with_reducible first | exact HB.out | apply below_alloc | apply pw_below_drewN | apply below_drew1) | exact HB.out)) hb); have n2_ := Aside0.mk (hbox); have n3_ := Aside0.mk ((by rw [hg]; exact (below_size (by repeat (first | (with_reducible first | exact HB.out | apply below_alloc | apply pw_below_drewN | apply below_drew1) | exact HB.out))) : w.heap.size ≤ gb143)); have n4_ := Aside0.mk ((by rw [hg]; exact (below_size (by repeat (first | (with_reducible first | exact HB.out | apply below_alloc | apply pw_below_drewN | apply below_drew1) | exact HB.out))) : w.heap.size ≤ gb143)); clear HO_9; clear HB; have HO_9 := n0_; have HB := n1_; have BK143 := n2_; have GW143 := n3_; have GE143 := n4_; clear n0_ n1_ n2_ n3_ n4_; clear hb hbox hg; have hcz134_0 : w133.cell? ⟨gb143, 0, none⟩ = some (.string (⟨#[]⟩ : ByteArray)) := (blk_cell BK143.out 0).trans rfl; have hcz134_1 : w133.cell? ⟨gb143, 1, none⟩ = some (.int .i64 0) := (blk_cell BK143.out 1).trans rfl; have hcz134_2 : w133.cell? ⟨gb143, 2, none⟩ = some (.int .i64 0) := (blk_cell BK143.out 2).trans rfl; have hcz134_3 : w133.cell? ⟨gb143, 3, none⟩ = some (.int .i64 0) := (blk_cell BK143.out 3).trans rfl; have hfz134_0 := blk_frozen BK143.out 0; have hfz134_1 := blk_frozen BK143.out 1; have hfz134_2 := blk_frozen BK143.out 2; have hfz134_3 := blk_frozen BK143.out 3))
        repeat (go_quiet (first | ((with_reducible refine gate_dst (N := 16) rfl ?_); (try (refine gate_guard (by rfl) ?_; dsimp only)); refine box_event ?hg (N := 16) ?hd (cs := #[.string (⟨#[]⟩ : ByteArray), .int .i64 0, .int .i64 0, .int .i64 0]) (t := 31) ?hr ?_; (case hd => rfl); (case hg => rfl); (case hr => first | (go_simp; done) | (go_simp; rfl)); intro gb143 hg w133 hbox hb; have n0_ := Aside0.mk (Kd.R_below (Kd.R_elderB (by (with_reducible repeat (first | apply Kd.R_alloc | apply Kd.R_drewN | apply Kd.R_drew)); exact HO_9.out) gb143 (Nat.le_of_eq hg.symm)) hb); have n1_ := Aside0.mk (below_step (by repeat (first | (with_reducible first | exact HB.out | apply below_alloc | apply pw_below_drewN | apply below_drew1) | exact HB.out)) hb); have n2_ := Aside0.mk (hbox); have n3_ := Aside0.mk ((by rw [hg]; exact (below_size (by repeat (first | (with_reducible first | exact HB.out | apply below_alloc | apply pw_below_drewN | apply below_drew1) | exact HB.out))) : w.heap.size ≤ gb143)); have n4_ := Aside0.mk ((by rw [hg]; exact (below_size (by repeat (first | (with_reducible first | exact HB.out | apply below_alloc | apply pw_below_drewN | apply below_drew1) | exact HB.out))) : w.heap.size ≤ gb143)); clear HO_9; clear HB; have HO_9 := n0_; have HB := n1_; have BK143 := n2_; have GW143 := n3_; have GE143 := n4_; clear n0_ n1_ n2_ n3_ n4_; clear hb hbox hg; have hcz134_0 : w133.cell? ⟨gb143, 0, none⟩ = some (.string (⟨#[]⟩ : ByteArray)) := (blk_cell BK143.out 0).trans rfl; have hcz134_1 : w133.cell? ⟨gb143, 1, none⟩ = some (.int .i64 0) := (blk_cell BK143.out 1).trans rfl; have hcz134_2 : w133.cell? ⟨gb143, 2, none⟩ = some (.int .i64 0) := (blk_cell BK143.out 2).trans rfl; have hcz134_3 : w133.cell? ⟨gb143, 3, none⟩ = some (.int .i64 0) := (blk_cell BK143.out 3).trans rfl; have hfz134_0 := blk_frozen BK143.out 0; have hfz134_1 := blk_frozen BK143.out 1; have hfz134_2 := blk_frozen BK143.out 2; have hfz134_3 := blk_frozen BK143.out 3)); try go_wp2_with (first | ((with_reducible refine gate_dst (N := 16) rfl ?_); (try (refine gate_guard (by rfl) ?_; dsimp only)); refine box_event ?hg (N := 16) ?hd (cs := #[.string (⟨#[]⟩ : ByteArray), .int .i64 0, .int .i64 0, .int .i64 0]) (t := 31) ?hr ?_; (case hd => rfl); (case hg => rfl); (case hr => first | (go_simp; done) | (go_simp; rfl)); intro gb143 hg w133 hbox hb; have n0_ := Aside0.mk (Kd.R_below (Kd.R_elderB (by (with_reducible repeat (first | apply Kd.R_alloc | apply Kd.R_drewN | apply Kd.R_drew)); exact HO_9.out) gb143 (Nat.le_of_eq hg.symm)) hb); have n1_ := Aside0.mk (below_step (by repeat (first | (with_reducible first | exact HB.out | apply below_alloc | apply pw_below_drewN | apply below_drew1) | exact HB.out)) hb); have n2_ := Aside0.mk (hbox); have n3_ := Aside0.mk ((by rw [hg]; exact (below_size (by repeat (first | (with_reducible first | exact HB.out | apply below_alloc | apply pw_below_drewN | apply below_drew1) | exact HB.out))) : w.heap.size ≤ gb143)); have n4_ := Aside0.mk ((by rw [hg]; exact (below_size (by repeat (first | (with_reducible first | exact HB.out | apply below_alloc | apply pw_below_drewN | apply below_drew1) | exact HB.out))) : w.heap.size ≤ gb143)); clear HO_9; clear HB; have HO_9 := n0_; have HB := n1_; have BK143 := n2_; have GW143 := n3_; have GE143 := n4_; clear n0_ n1_ n2_ n3_ n4_; clear hb hbox hg; have hcz134_0 : w133.cell? ⟨gb143, 0, none⟩ = some (.string (⟨#[]⟩ : ByteArray)) := (blk_cell BK143.out 0).trans rfl; have hcz134_1 : w133.cell? ⟨gb143, 1, none⟩ = some (.int .i64 0) := (blk_cell BK143.out 1).trans rfl; have hcz134_2 : w133.cell? ⟨gb143, 2, none⟩ = some (.int .i64 0) := (blk_cell BK143.out 2).trans rfl; have hcz134_3 : w133.cell? ⟨gb143, 3, none⟩ = some (.int .i64 0) := (blk_cell BK143.out 3).trans rfl; have hfz134_0 := blk_frozen BK143.out 0; have hfz134_1 := blk_frozen BK143.out 1; have hfz134_2 := blk_frozen BK143.out 2; have hfz134_3 := blk_frozen BK143.out 3)))
        go_loopg [17, 123] k2 (fun kq v17 v123 w' => ∃ (x17_3 : Bool) (x123_3 : Int) (x144000_3 : ByteArray) (x144001_3 : Int) (x144002_3 : Int) (x144003_3 : Int), v17 = .bool x17_3 ∧ v123 = .int .i64 x123_3 ∧ Aside0 (sumplaw42_UsageDoes.l2 kq a1 a2 l3 t130 x10_2 x17_3 l3 (l3.length : Int) x123_3 x144000_3 x144001_3 x144002_3 x144003_3 = some r) ∧ Aside0 (kq ≤ k2) ∧ Aside0 (Kd.R k31 31 w' w.heap.size (fun k_ => k_ ≠ gb143) v131 t130) ∧ Aside0 (w'.heap[gb143]? = some (.cells #[.string x144000_3, .int .i64 x144001_3, .int .i64 x144002_3, .int .i64 x144003_3] 31 (0, 0))) ∧ Aside0 (Below w.heap.size w w'))
        case atStart => exact ⟨(false), (0), ((⟨#[]⟩ : ByteArray)), (0), (0), (0), (by first | rfl | (simp; done) | (simp [*]; done)), (by first | rfl | (simp; done) | (simp [*]; done)), H', ⟨Nat.le_refl _⟩, ⟨by (with_reducible repeat (first | apply Kd.R_alloc | apply Kd.R_drewN | apply Kd.R_drew)); exact Kd.R_mono (Kd.R_far (p := ⟨gb143, 3, none⟩) (Kd.R_far (p := ⟨gb143, 2, none⟩) (Kd.R_far (p := ⟨gb143, 1, none⟩) (Kd.R_far (p := ⟨gb143, 0, none⟩) (Kd.R_mono HO_9.out (fun k_ hk => (⟨hk, hk.2⟩ : _ ∧ k_ ≠ gb143))) (fun _ hk => hk.2) (.string (⟨#[]⟩ : ByteArray))) (fun _ hk => hk.2) (.int .i64 0)) (fun _ hk => hk.2) (.int .i64 0)) (fun _ hk => hk.2) (.int .i64 0)) (fun _ hk => hk.1.2)⟩, ⟨by (with_reducible repeat (first | refine blk_drewN ?_ _ | refine blk_drew ?_ | refine blk_alloc ?_ _)); refine blk_put (cs := #[.string (⟨#[]⟩ : ByteArray), .int .i64 0, .int .i64 0, .int .i64 0]) ?_ 3 _ rfl; (with_reducible repeat (first | refine blk_drewN ?_ _ | refine blk_drew ?_ | refine blk_alloc ?_ _)); refine blk_put (cs := #[.string (⟨#[]⟩ : ByteArray), .int .i64 0, .int .i64 0, .int .i64 0]) ?_ 2 _ rfl; (with_reducible repeat (first | refine blk_drewN ?_ _ | refine blk_drew ?_ | refine blk_alloc ?_ _)); refine blk_put (cs := #[.string (⟨#[]⟩ : ByteArray), .int .i64 0, .int .i64 0, .int .i64 0]) ?_ 1 _ rfl; (with_reducible repeat (first | refine blk_drewN ?_ _ | refine blk_drew ?_ | refine blk_alloc ?_ _)); refine blk_put (cs := #[.string (⟨#[]⟩ : ByteArray), .int .i64 0, .int .i64 0, .int .i64 0]) ?_ 0 _ rfl; (with_reducible repeat (first | refine blk_drewN ?_ _ | refine blk_drew ?_ | refine blk_alloc ?_ _)); exact BK143.out⟩, ⟨by repeat (first | (with_reducible first | exact HB.out | apply below_alloc | apply pw_below_drewN | apply below_drew1 | refine below_set ?_ GE143.out) | exact HB.out)⟩⟩
        case round =>
         clear H'
         try clear c1
         try clear p1
         try clear q1
         try clear hx1
         try clear c2
         try clear p2
         try clear c3
         try clear c4
         try clear c6
         try clear p6
         try clear c7
         try clear c8
         try clear c9
         try clear c10
         try clear c11
         try clear c12
         try clear c13
         try clear p13
         try clear q13
         try clear hx13
         try clear c20
         try clear c20b0
         try clear c21
         try clear c22
         try clear c23
         try clear c23b0
         try clear c23b1
         try clear c29
         try clear c29b0
         try clear c30
         try clear c31
         try clear c49
         try clear c61
         try clear c63
         try clear c64
         try clear c64b0
         try clear c64b1
         try clear p64
         try clear c65
         try clear c66
         try clear c68
         try clear c71
         try clear c72
         try clear c74
         try clear c77
         try clear c78
         try clear c80
         try clear c84
         try clear c85
         try clear c85b0
         try clear c85b1
         try clear c86
         try clear c87
         try clear c89
         try clear c92
         try clear c93
         try clear c95
         try clear c97
         try clear c98
         try clear c100
         try clear c103
         try clear c104
         try clear c104b0
         try clear c104b1
         try clear c105
         try clear c106
         try clear c108
         try clear c111
         try clear c112
         try clear c114
         try clear c116
         try clear c117
         try clear c119
         try clear c121
         try clear c121b0
         try clear c122
         try clear c122b0
         try clear c123
         try clear c123b0
         try clear c124
         try clear c124b0
         try clear c124b1
         try clear c125
         try clear c125b0
         try clear c125b1
         try clear c126
         try clear c126b0
         try clear c126b1
         try clear c127
         try clear c127b0
         try clear c127b1
         try clear c129
         try clear c133
         try clear p133
         try clear q133
         try clear hx133
         try clear hcz101_0
         try clear hcz101_1
         try clear hcz101_2
         try clear hcz101_3
         try clear hcz101_4
         try clear hcz107_0
         try clear hcz107_1
         try clear hcz107_2
         try clear hcz107_3
         try clear hcz107_4
         try clear hcz109_0
         try clear hcz109_1
         try clear hcz109_2
         try clear hcz109_3
         try clear hcz109_4
         try clear hcz110_0
         try clear hcz110_1
         try clear hcz110_2
         try clear hcz110_3
         try clear hcz113_0
         try clear hcz113_1
         try clear hcz113_2
         try clear hcz113_3
         try clear hcz113_4
         try clear hcz115_0
         try clear hcz115_1
         try clear hcz115_2
         try clear hcz115_3
         try clear hcz115_4
         try clear hcz118_0
         try clear hcz118_1
         try clear hcz118_2
         try clear hcz118_3
         try clear hcz118_4
         try clear hcz120_0
         try clear hcz120_1
         try clear hcz120_2
         try clear hcz120_3
         try clear hcz120_4
         try clear hcz130_0
         try clear hcz130_1
         try clear hcz130_2
         try clear hcz130_3
         try clear hcz132_0
         try clear hcz132_1
         try clear hcz132_2
         try clear hcz132_3
         try clear hcz132_4
         try clear hcz134_0
         try clear hcz134_1
         try clear hcz134_2
         try clear hcz134_3
         try clear hcz67_0
         try clear hcz67_1
         try clear hcz67_2
         try clear hcz67_3
         try clear hcz69_0
         try clear hcz69_1
         try clear hcz69_2
         try clear hcz69_3
         try clear hcz69_4
         try clear hcz70_0
         try clear hcz70_1
         try clear hcz70_2
         try clear hcz70_3
         try clear hcz70_4
         try clear hcz73_0
         try clear hcz73_1
         try clear hcz73_2
         try clear hcz73_3
         try clear hcz75_0
         try clear hcz75_1
         try clear hcz75_2
         try clear hcz75_3
         try clear hcz75_4
         try clear hcz76_0
         try clear hcz76_1
         try clear hcz76_2
         try clear hcz76_3
         try clear hcz76_4
         try clear hcz79_0
         try clear hcz79_1
         try clear hcz79_2
         try clear hcz79_3
         try clear hcz81_0
         try clear hcz81_1
         try clear hcz81_2
         try clear hcz81_3
         try clear hcz81_4
         try clear hcz82_0
         try clear hcz82_1
         try clear hcz82_2
         try clear hcz82_3
         try clear hcz82_4
         try clear hcz88_0
         try clear hcz88_1
         try clear hcz88_2
         try clear hcz88_3
         try clear hcz88_4
         try clear hcz90_0
         try clear hcz90_1
         try clear hcz90_2
         try clear hcz90_3
         try clear hcz90_4
         try clear hcz91_0
         try clear hcz91_1
         try clear hcz91_2
         try clear hcz91_3
         try clear hcz94_0
         try clear hcz94_1
         try clear hcz94_2
         try clear hcz94_3
         try clear hcz94_4
         try clear hcz96_0
         try clear hcz96_1
         try clear hcz96_2
         try clear hcz96_3
         try clear hcz96_4
         try clear hcz99_0
         try clear hcz99_1
         try clear hcz99_2
         try clear hcz99_3
         try clear hcz99_4
         try clear hfz101_0
         try clear hfz101_1
         try clear hfz101_2
         try clear hfz101_3
         try clear hfz101_4
         try clear hfz107_0
         try clear hfz107_1
         try clear hfz107_2
         try clear hfz107_3
         try clear hfz107_4
         try clear hfz109_0
         try clear hfz109_1
         try clear hfz109_2
         try clear hfz109_3
         try clear hfz109_4
         try clear hfz110_0
         try clear hfz110_1
         try clear hfz110_2
         try clear hfz110_3
         try clear hfz113_0
         try clear hfz113_1
         try clear hfz113_2
         try clear hfz113_3
         try clear hfz113_4
         try clear hfz115_0
         try clear hfz115_1
         try clear hfz115_2
         try clear hfz115_3
         try clear hfz115_4
         try clear hfz118_0
         try clear hfz118_1
         try clear hfz118_2
         try clear hfz118_3
         try clear hfz118_4
         try clear hfz120_0
         try clear hfz120_1
         try clear hfz120_2
         try clear hfz120_3
         try clear hfz120_4
         try clear hfz130_0
         try clear hfz130_1
         try clear hfz130_2
         try clear hfz130_3
         try clear hfz132_0
         try clear hfz132_1
         try clear hfz132_2
         try clear hfz132_3
         try clear hfz132_4
         try clear hfz134_0
         try clear hfz134_1
         try clear hfz134_2
         try clear hfz134_3
         try clear hfz41_1
         try clear hfz41_2
         try clear hfz41_3
         try clear hfz41_4
         try clear hfz43_0
         try clear hfz43_1
         try clear hfz43_2
         try clear hfz43_3
         try clear hfz43_4
         try clear hfz46_0
         try clear hfz46_1
         try clear hfz46_2
         try clear hfz46_3
         try clear hfz46_4
         try clear hfz48_0
         try clear hfz48_1
         try clear hfz48_2
         try clear hfz48_3
         try clear hfz48_4
         try clear hfz53_0
         try clear hfz53_1
         try clear hfz53_2
         try clear hfz53_3
         try clear hfz57_0
         try clear hfz57_1
         try clear hfz57_2
         try clear hfz57_3
         try clear hfz57_4
         try clear hfz60_0
         try clear hfz60_1
         try clear hfz60_2
         try clear hfz60_3
         try clear hfz60_4
         try clear hfz67_0
         try clear hfz67_1
         try clear hfz67_2
         try clear hfz67_3
         try clear hfz69_0
         try clear hfz69_1
         try clear hfz69_2
         try clear hfz69_3
         try clear hfz69_4
         try clear hfz70_0
         try clear hfz70_1
         try clear hfz70_2
         try clear hfz70_3
         try clear hfz70_4
         try clear hfz73_0
         try clear hfz73_1
         try clear hfz73_2
         try clear hfz73_3
         try clear hfz75_0
         try clear hfz75_1
         try clear hfz75_2
         try clear hfz75_3
         try clear hfz75_4
         try clear hfz76_0
         try clear hfz76_1
         try clear hfz76_2
         try clear hfz76_3
         try clear hfz76_4
         try clear hfz79_0
         try clear hfz79_1
         try clear hfz79_2
         try clear hfz79_3
         try clear hfz81_0
         try clear hfz81_1
         try clear hfz81_2
         try clear hfz81_3
         try clear hfz81_4
         try clear hfz82_0
         try clear hfz82_1
         try clear hfz82_2
         try clear hfz82_3
         try clear hfz82_4
         try clear hfz88_0
         try clear hfz88_1
         try clear hfz88_2
         try clear hfz88_3
         try clear hfz88_4
         try clear hfz90_0
         try clear hfz90_1
         try clear hfz90_2
         try clear hfz90_3
         try clear hfz90_4
         try clear hfz91_0
         try clear hfz91_1
         try clear hfz91_2
         try clear hfz91_3
         try clear hfz94_0
         try clear hfz94_1
         try clear hfz94_2
         try clear hfz94_3
         try clear hfz94_4
         try clear hfz96_0
         try clear hfz96_1
         try clear hfz96_2
         try clear hfz96_3
         try clear hfz96_4
         try clear hfz99_0
         try clear hfz99_1
         try clear hfz99_2
         try clear hfz99_3
         try clear hfz99_4
         try clear hx133_0
         try clear hx133_1
         try clear hx133_2
         try clear hx133_3
         try clear hx133_4
         try clear hx136_0
         try clear hx136_1
         try clear hx136_2
         try clear hx136_3
         try clear hx137_0
         try clear hx137_1
         try clear hx137_2
         try clear hx137_3
         try clear hx137_4
         try clear p1
         try clear p13
         try clear p133
         try clear p136
         try clear p137
         try clear p2
         try clear q1
         try clear q13
         try clear q133
         try clear q136
         try clear q137
         obtain ⟨x17_3, x123_3, x144000_3, x144001_3, x144002_3, x144003_3, rfl, rfl, HA, HK3, HO_9, BK143, HB⟩ := hrel
         cases gk with
         | zero => exact absurd HA.out (by simp [sumplaw42_UsageDoes.l2])
         | succ k3 =>
          have H := HA.out
          clear HA
          simp only [sumplaw42_UsageDoes.l2] at H
          by_cases c135 : x123_3 < (l3.length : Int)
          ·rw [if_pos c135] at H
           have c135b0 : decide (x123_3 < (l3.length : Int)) = true := decide_eq_true c135
           clear c135
           by_cases c136 : 0 ≤ x123_3
           ·rw [if_pos c136] at H
            have c136b0 : decide (0 ≤ x123_3) = true := decide_eq_true c136
            clear c136
            by_cases c137 : x123_3 < (l3.length : Int)
            ·rw [if_pos c137] at H
             have c137b0 : decide (x123_3 < (l3.length : Int)) = true := decide_eq_true c137
             clear c137
             by_cases c138 : x17_3 = true
             ·subst c138
              have H1 : (sumplaw42_UsageDoes.l2 k3 a1 a2 l3 t130 x10_2 true l3 (l3.length : Int) (wrap64 (x123_3 + 1)) x144000_3 x144001_3 x144002_3 x144003_3) = some r := by rw [if_pos rfl] at H; exact H
              clear H
              have H := H1
              clear H1
              have H' := Aside0.mk H
              clear H
              have p144 : 0 ≤ (x123_3 : Int) := of_decide_eq_true (by first | (with_reducible assumption) | assumption)
              have q144 : x123_3 < (l3.length : Int) := of_decide_eq_true (by first | (with_reducible assumption) | assumption)
              obtain ⟨ad144, e144, hx144_0, hx144_1, hx144_2, hx144_3⟩ := at_T31 HR3.out x123_3 p144 q144
              cases e144
              replace hx144_0 := (HB.out.cell (World.block_lt_of_cell? w _ hx144_0)).trans hx144_0
              replace hx144_1 := (HB.out.cell (World.block_lt_of_cell? w _ hx144_1)).trans hx144_1
              replace hx144_2 := (HB.out.cell (World.block_lt_of_cell? w _ hx144_2)).trans hx144_2
              replace hx144_3 := (HB.out.cell (World.block_lt_of_cell? w _ hx144_3)).trans hx144_3
              replace p144 := eq_true p144
              replace q144 := eq_true q144
              go_wp2_with (first | ((with_reducible refine gate_dst (N := 19) rfl ?_); (try (refine gate_guard (by rfl) ?_; dsimp only)); refine box_event ?hg (N := 19) ?hd (cs := #[.string (⟨#[]⟩ : ByteArray), .int .i64 0, .int .i64 0, .int .i64 0]) (t := 31) ?hr ?_; (case hd => rfl); (case hg => rfl); (case hr => first | (go_simp; done) | (go_simp; rfl)); intro gb145 hg w139 hbox hb; have n0_ := Aside0.mk (Kd.R_below (Kd.R_elderB (by (with_reducible repeat (first | apply Kd.R_alloc | apply Kd.R_drewN | apply Kd.R_drew)); exact HO_9.out) gb145 (Nat.le_of_eq hg.symm)) hb); have n1_ := Aside0.mk (blk_below (g := gb143) (o := .cells #[.string x144000_3, .int .i64 x144001_3, .int .i64 x144002_3, .int .i64 x144003_3] 31 (0, 0)) (by (with_reducible repeat (first | refine blk_drewN ?_ _ | refine blk_drew ?_ | refine blk_alloc ?_ _)); exact BK143.out) hb); have n2_ := Aside0.mk (below_step (by repeat (first | (with_reducible first | exact HB.out | apply below_alloc | apply pw_below_drewN | apply below_drew1 | refine below_set ?_ GE143.out) | exact HB.out)) hb); have n3_ := Aside0.mk (hbox); have n4_ := Aside0.mk ((by rw [hg]; exact (below_size (by repeat (first | (with_reducible first | exact HB.out | apply below_alloc | apply pw_below_drewN | apply below_drew1 | refine below_set ?_ GE143.out) | exact HB.out))) : w.heap.size ≤ gb145)); have n5_ := Aside0.mk ((by rw [hg]; exact (below_size (by repeat (first | (with_reducible first | exact HB.out | apply below_alloc | apply pw_below_drewN | apply below_drew1 | refine below_set ?_ GE143.out) | exact HB.out))) : w.heap.size ≤ gb145)); have n6_ := Aside0.mk ((by rw [hg]; exact Nat.ne_of_lt (blk_lt (g := gb143) (o := .cells #[.string x144000_3, .int .i64 x144001_3, .int .i64 x144002_3, .int .i64 x144003_3] 31 (0, 0)) (by (with_reducible repeat (first | refine blk_drewN ?_ _ | refine blk_drew ?_ | refine blk_alloc ?_ _)); exact BK143.out)) : gb143 ≠ gb145)); have n7_ := Aside0.mk ((by rw [hg]; exact Nat.ne_of_gt (blk_lt (g := gb143) (o := .cells #[.string x144000_3, .int .i64 x144001_3, .int .i64 x144002_3, .int .i64 x144003_3] 31 (0, 0)) (by (with_reducible repeat (first | refine blk_drewN ?_ _ | refine blk_drew ?_ | refine blk_alloc ?_ _)); exact BK143.out)) : gb145 ≠ gb143)); clear HO_9; clear BK143; clear HB; have HO_9 := n0_; have BK143 := n1_; have HB := n2_; have BK145 := n3_; have GW145 := n4_; have GE145 := n5_; have NB143_145 := n6_; have NB145_143 := n7_; clear n0_ n1_ n2_ n3_ n4_ n5_ n6_ n7_; clear hb hbox hg; have hnb140 := NB145_143.out; have hnc140 := NB143_145.out; have hcz141_0 : w139.cell? ⟨gb145, 0, none⟩ = some (.string (⟨#[]⟩ : ByteArray)) := (blk_cell BK145.out 0).trans rfl; have hcz141_1 : w139.cell? ⟨gb145, 1, none⟩ = some (.int .i64 0) := (blk_cell BK145.out 1).trans rfl; have hcz141_2 : w139.cell? ⟨gb145, 2, none⟩ = some (.int .i64 0) := (blk_cell BK145.out 2).trans rfl; have hcz141_3 : w139.cell? ⟨gb145, 3, none⟩ = some (.int .i64 0) := (blk_cell BK145.out 3).trans rfl; have hfz141_0 := blk_frozen BK145.out 0; have hfz141_1 := blk_frozen BK145.out 1; have hfz141_2 := blk_frozen BK145.out 2; have hfz141_3 := blk_frozen BK145.out 3))
              repeat (go_quiet (first | ((with_reducible refine gate_dst (N := 19) rfl ?_); (try (refine gate_guard (by rfl) ?_; dsimp only)); refine box_event ?hg (N := 19) ?hd (cs := #[.string (⟨#[]⟩ : ByteArray), .int .i64 0, .int .i64 0, .int .i64 0]) (t := 31) ?hr ?_; (case hd => rfl); (case hg => rfl); (case hr => first | (go_simp; done) | (go_simp; rfl)); intro gb145 hg w139 hbox hb; have n0_ := Aside0.mk (Kd.R_below (Kd.R_elderB (by (with_reducible repeat (first | apply Kd.R_alloc | apply Kd.R_drewN | apply Kd.R_drew)); exact HO_9.out) gb145 (Nat.le_of_eq hg.symm)) hb); have n1_ := Aside0.mk (blk_below (g := gb143) (o := .cells #[.string x144000_3, .int .i64 x144001_3, .int .i64 x144002_3, .int .i64 x144003_3] 31 (0, 0)) (by (with_reducible repeat (first | refine blk_drewN ?_ _ | refine blk_drew ?_ | refine blk_alloc ?_ _)); exact BK143.out) hb); have n2_ := Aside0.mk (below_step (by repeat (first | (with_reducible first | exact HB.out | apply below_alloc | apply pw_below_drewN | apply below_drew1 | refine below_set ?_ GE143.out) | exact HB.out)) hb); have n3_ := Aside0.mk (hbox); have n4_ := Aside0.mk ((by rw [hg]; exact (below_size (by repeat (first | (with_reducible first | exact HB.out | apply below_alloc | apply pw_below_drewN | apply below_drew1 | refine below_set ?_ GE143.out) | exact HB.out))) : w.heap.size ≤ gb145)); have n5_ := Aside0.mk ((by rw [hg]; exact (below_size (by repeat (first | (with_reducible first | exact HB.out | apply below_alloc | apply pw_below_drewN | apply below_drew1 | refine below_set ?_ GE143.out) | exact HB.out))) : w.heap.size ≤ gb145)); have n6_ := Aside0.mk ((by rw [hg]; exact Nat.ne_of_lt (blk_lt (g := gb143) (o := .cells #[.string x144000_3, .int .i64 x144001_3, .int .i64 x144002_3, .int .i64 x144003_3] 31 (0, 0)) (by (with_reducible repeat (first | refine blk_drewN ?_ _ | refine blk_drew ?_ | refine blk_alloc ?_ _)); exact BK143.out)) : gb143 ≠ gb145)); have n7_ := Aside0.mk ((by rw [hg]; exact Nat.ne_of_gt (blk_lt (g := gb143) (o := .cells #[.string x144000_3, .int .i64 x144001_3, .int .i64 x144002_3, .int .i64 x144003_3] 31 (0, 0)) (by (with_reducible repeat (first | refine blk_drewN ?_ _ | refine blk_drew ?_ | refine blk_alloc ?_ _)); exact BK143.out)) : gb145 ≠ gb143)); clear HO_9; clear BK143; clear HB; have HO_9 := n0_; have BK143 := n1_; have HB := n2_; have BK145 := n3_; have GW145 := n4_; have GE145 := n5_; have NB143_145 := n6_; have NB145_143 := n7_; clear n0_ n1_ n2_ n3_ n4_ n5_ n6_ n7_; clear hb hbox hg; have hnb140 := NB145_143.out; have hnc140 := NB143_145.out; have hcz141_0 : w139.cell? ⟨gb145, 0, none⟩ = some (.string (⟨#[]⟩ : ByteArray)) := (blk_cell BK145.out 0).trans rfl; have hcz141_1 : w139.cell? ⟨gb145, 1, none⟩ = some (.int .i64 0) := (blk_cell BK145.out 1).trans rfl; have hcz141_2 : w139.cell? ⟨gb145, 2, none⟩ = some (.int .i64 0) := (blk_cell BK145.out 2).trans rfl; have hcz141_3 : w139.cell? ⟨gb145, 3, none⟩ = some (.int .i64 0) := (blk_cell BK145.out 3).trans rfl; have hfz141_0 := blk_frozen BK145.out 0; have hfz141_1 := blk_frozen BK145.out 1; have hfz141_2 := blk_frozen BK145.out 2; have hfz141_3 := blk_frozen BK145.out 3)); try go_wp2_with (first | ((with_reducible refine gate_dst (N := 19) rfl ?_); (try (refine gate_guard (by rfl) ?_; dsimp only)); refine box_event ?hg (N := 19) ?hd (cs := #[.string (⟨#[]⟩ : ByteArray), .int .i64 0, .int .i64 0, .int .i64 0]) (t := 31) ?hr ?_; (case hd => rfl); (case hg => rfl); (case hr => first | (go_simp; done) | (go_simp; rfl)); intro gb145 hg w139 hbox hb; have n0_ := Aside0.mk (Kd.R_below (Kd.R_elderB (by (with_reducible repeat (first | apply Kd.R_alloc | apply Kd.R_drewN | apply Kd.R_drew)); exact HO_9.out) gb145 (Nat.le_of_eq hg.symm)) hb); have n1_ := Aside0.mk (blk_below (g := gb143) (o := .cells #[.string x144000_3, .int .i64 x144001_3, .int .i64 x144002_3, .int .i64 x144003_3] 31 (0, 0)) (by (with_reducible repeat (first | refine blk_drewN ?_ _ | refine blk_drew ?_ | refine blk_alloc ?_ _)); exact BK143.out) hb); have n2_ := Aside0.mk (below_step (by repeat (first | (with_reducible first | exact HB.out | apply below_alloc | apply pw_below_drewN | apply below_drew1 | refine below_set ?_ GE143.out) | exact HB.out)) hb); have n3_ := Aside0.mk (hbox); have n4_ := Aside0.mk ((by rw [hg]; exact (below_size (by repeat (first | (with_reducible first | exact HB.out | apply below_alloc | apply pw_below_drewN | apply below_drew1 | refine below_set ?_ GE143.out) | exact HB.out))) : w.heap.size ≤ gb145)); have n5_ := Aside0.mk ((by rw [hg]; exact (below_size (by repeat (first | (with_reducible first | exact HB.out | apply below_alloc | apply pw_below_drewN | apply below_drew1 | refine below_set ?_ GE143.out) | exact HB.out))) : w.heap.size ≤ gb145)); have n6_ := Aside0.mk ((by rw [hg]; exact Nat.ne_of_lt (blk_lt (g := gb143) (o := .cells #[.string x144000_3, .int .i64 x144001_3, .int .i64 x144002_3, .int .i64 x144003_3] 31 (0, 0)) (by (with_reducible repeat (first | refine blk_drewN ?_ _ | refine blk_drew ?_ | refine blk_alloc ?_ _)); exact BK143.out)) : gb143 ≠ gb145)); have n7_ := Aside0.mk ((by rw [hg]; exact Nat.ne_of_gt (blk_lt (g := gb143) (o := .cells #[.string x144000_3, .int .i64 x144001_3, .int .i64 x144002_3, .int .i64 x144003_3] 31 (0, 0)) (by (with_reducible repeat (first | refine blk_drewN ?_ _ | refine blk_drew ?_ | refine blk_alloc ?_ _)); exact BK143.out)) : gb145 ≠ gb143)); clear HO_9; clear BK143; clear HB; have HO_9 := n0_; have BK143 := n1_; have HB := n2_; have BK145 := n3_; have GW145 := n4_; have GE145 := n5_; have NB143_145 := n6_; have NB145_143 := n7_; clear n0_ n1_ n2_ n3_ n4_ n5_ n6_ n7_; clear hb hbox hg; have hnb140 := NB145_143.out; have hnc140 := NB143_145.out; have hcz141_0 : w139.cell? ⟨gb145, 0, none⟩ = some (.string (⟨#[]⟩ : ByteArray)) := (blk_cell BK145.out 0).trans rfl; have hcz141_1 : w139.cell? ⟨gb145, 1, none⟩ = some (.int .i64 0) := (blk_cell BK145.out 1).trans rfl; have hcz141_2 : w139.cell? ⟨gb145, 2, none⟩ = some (.int .i64 0) := (blk_cell BK145.out 2).trans rfl; have hcz141_3 : w139.cell? ⟨gb145, 3, none⟩ = some (.int .i64 0) := (blk_cell BK145.out 3).trans rfl; have hfz141_0 := blk_frozen BK145.out 0; have hfz141_1 := blk_frozen BK145.out 1; have hfz141_2 := blk_frozen BK145.out 2; have hfz141_3 := blk_frozen BK145.out 3)))
              go_roundg k3
              case measure => have := HJ6.out; have := HK2.out; have := HK3.out; omega
              case rel => exact ⟨(true), (wrap64 (x123_3 + 1)), (x144000_3), (x144001_3), (x144002_3), (x144003_3), (by first | rfl | (simp; done) | (simp [*]; done)), (by first | rfl | (simp; done) | (simp [*]; done)), H', ⟨by have := HJ6.out; have := HK2.out; have := HK3.out; omega⟩, ⟨by (with_reducible repeat (first | apply Kd.R_alloc | apply Kd.R_drewN | apply Kd.R_drew)); exact Kd.R_mono (Kd.R_far (p := ⟨gb145, 3, none⟩) (Kd.R_far (p := ⟨gb145, 2, none⟩) (Kd.R_far (p := ⟨gb145, 1, none⟩) (Kd.R_far (p := ⟨gb145, 0, none⟩) (Kd.R_mono HO_9.out (fun k_ hk => (⟨hk, hk.2⟩ : _ ∧ k_ ≠ gb145))) (fun _ hk => hk.2) (.string ((rd_T31 l3 x123_3).f0))) (fun _ hk => hk.2) (.int .i64 ((rd_T31 l3 x123_3).f1))) (fun _ hk => hk.2) (.int .i64 ((rd_T31 l3 x123_3).f2))) (fun _ hk => hk.2) (.int .i64 ((rd_T31 l3 x123_3).f3))) (fun _ hk => hk.1.1)⟩, ⟨by (with_reducible repeat (first | refine blk_drewN ?_ _ | refine blk_drew ?_ | refine blk_alloc ?_ _)); refine blk_far ?_ NB143_145.out _; (with_reducible repeat (first | refine blk_drewN ?_ _ | refine blk_drew ?_ | refine blk_alloc ?_ _)); refine blk_far ?_ NB143_145.out _; (with_reducible repeat (first | refine blk_drewN ?_ _ | refine blk_drew ?_ | refine blk_alloc ?_ _)); refine blk_far ?_ NB143_145.out _; (with_reducible repeat (first | refine blk_drewN ?_ _ | refine blk_drew ?_ | refine blk_alloc ?_ _)); refine blk_far ?_ NB143_145.out _; (with_reducible repeat (first | refine blk_drewN ?_ _ | refine blk_drew ?_ | refine blk_alloc ?_ _)); exact BK143.out⟩, ⟨by repeat (first | (with_reducible first | exact HB.out | apply below_alloc | apply pw_below_drewN | apply below_drew1 | refine below_set ?_ GE143.out | refine below_set ?_ GE145.out) | exact HB.out)⟩⟩
             ·replace c138 := Bool.eq_false_iff.mpr c138
              subst c138
              have H1 : (if ((rd_T31 l3 x123_3).f0).toList = a1.toList then (sumplaw42_UsageDoes.l2 k3 a1 a2 l3 t130 x10_2 true l3 (l3.length : Int) (wrap64 (x123_3 + 1)) ((rd_T31 l3 x123_3).f0) ((rd_T31 l3 x123_3).f1) ((rd_T31 l3 x123_3).f2) ((rd_T31 l3 x123_3).f3)) else (sumplaw42_UsageDoes.l2 k3 a1 a2 l3 t130 x10_2 false l3 (l3.length : Int) (wrap64 (x123_3 + 1)) x144000_3 x144001_3 x144002_3 x144003_3)) = some r := by rw [if_neg (show ¬ (false = true) by decide)] at H; exact H
              clear H
              have H := H1
              clear H1
              by_cases c142 : ((rd_T31 l3 x123_3).f0).toList = a1.toList
              ·rw [if_pos c142] at H
               have c142b0 : (((rd_T31 l3 x123_3).f0).toList == a1.toList) = true := beq_iff_eq.mpr c142
               have c142b1 : (((rd_T31 l3 x123_3).f0).toList != a1.toList) = false := bne_eq_false_iff_eq.mpr c142
               clear c142
               have H' := Aside0.mk H
               clear H
               have p144 : 0 ≤ (x123_3 : Int) := of_decide_eq_true (by first | (with_reducible assumption) | assumption)
               have q144 : x123_3 < (l3.length : Int) := of_decide_eq_true (by first | (with_reducible assumption) | assumption)
               obtain ⟨ad144, e144, hx144_0, hx144_1, hx144_2, hx144_3⟩ := at_T31 HR3.out x123_3 p144 q144
               cases e144
               replace hx144_0 := (HB.out.cell (World.block_lt_of_cell? w _ hx144_0)).trans hx144_0
               replace hx144_1 := (HB.out.cell (World.block_lt_of_cell? w _ hx144_1)).trans hx144_1
               replace hx144_2 := (HB.out.cell (World.block_lt_of_cell? w _ hx144_2)).trans hx144_2
               replace hx144_3 := (HB.out.cell (World.block_lt_of_cell? w _ hx144_3)).trans hx144_3
               replace p144 := eq_true p144
               replace q144 := eq_true q144
               go_wp2_with (first | ((with_reducible refine gate_dst (N := 19) rfl ?_); (try (refine gate_guard (by rfl) ?_; dsimp only)); refine box_event ?hg (N := 19) ?hd (cs := #[.string (⟨#[]⟩ : ByteArray), .int .i64 0, .int .i64 0, .int .i64 0]) (t := 31) ?hr ?_; (case hd => rfl); (case hg => rfl); (case hr => first | (go_simp; done) | (go_simp; rfl)); intro gb145 hg w143 hbox hb; have n0_ := Aside0.mk (Kd.R_below (Kd.R_elderB (by (with_reducible repeat (first | apply Kd.R_alloc | apply Kd.R_drewN | apply Kd.R_drew)); exact HO_9.out) gb145 (Nat.le_of_eq hg.symm)) hb); have n1_ := Aside0.mk (blk_below (g := gb143) (o := .cells #[.string x144000_3, .int .i64 x144001_3, .int .i64 x144002_3, .int .i64 x144003_3] 31 (0, 0)) (by (with_reducible repeat (first | refine blk_drewN ?_ _ | refine blk_drew ?_ | refine blk_alloc ?_ _)); exact BK143.out) hb); have n2_ := Aside0.mk (below_step (by repeat (first | (with_reducible first | exact HB.out | apply below_alloc | apply pw_below_drewN | apply below_drew1 | refine below_set ?_ GE143.out) | exact HB.out)) hb); have n3_ := Aside0.mk (hbox); have n4_ := Aside0.mk ((by rw [hg]; exact (below_size (by repeat (first | (with_reducible first | exact HB.out | apply below_alloc | apply pw_below_drewN | apply below_drew1 | refine below_set ?_ GE143.out) | exact HB.out))) : w.heap.size ≤ gb145)); have n5_ := Aside0.mk ((by rw [hg]; exact (below_size (by repeat (first | (with_reducible first | exact HB.out | apply below_alloc | apply pw_below_drewN | apply below_drew1 | refine below_set ?_ GE143.out) | exact HB.out))) : w.heap.size ≤ gb145)); have n6_ := Aside0.mk ((by rw [hg]; exact Nat.ne_of_lt (blk_lt (g := gb143) (o := .cells #[.string x144000_3, .int .i64 x144001_3, .int .i64 x144002_3, .int .i64 x144003_3] 31 (0, 0)) (by (with_reducible repeat (first | refine blk_drewN ?_ _ | refine blk_drew ?_ | refine blk_alloc ?_ _)); exact BK143.out)) : gb143 ≠ gb145)); have n7_ := Aside0.mk ((by rw [hg]; exact Nat.ne_of_gt (blk_lt (g := gb143) (o := .cells #[.string x144000_3, .int .i64 x144001_3, .int .i64 x144002_3, .int .i64 x144003_3] 31 (0, 0)) (by (with_reducible repeat (first | refine blk_drewN ?_ _ | refine blk_drew ?_ | refine blk_alloc ?_ _)); exact BK143.out)) : gb145 ≠ gb143)); clear HO_9; clear BK143; clear HB; have HO_9 := n0_; have BK143 := n1_; have HB := n2_; have BK145 := n3_; have GW145 := n4_; have GE145 := n5_; have NB143_145 := n6_; have NB145_143 := n7_; clear n0_ n1_ n2_ n3_ n4_ n5_ n6_ n7_; clear hb hbox hg; have hnb144 := NB145_143.out; have hnc144 := NB143_145.out; have hcz145_0 : w143.cell? ⟨gb145, 0, none⟩ = some (.string (⟨#[]⟩ : ByteArray)) := (blk_cell BK145.out 0).trans rfl; have hcz145_1 : w143.cell? ⟨gb145, 1, none⟩ = some (.int .i64 0) := (blk_cell BK145.out 1).trans rfl; have hcz145_2 : w143.cell? ⟨gb145, 2, none⟩ = some (.int .i64 0) := (blk_cell BK145.out 2).trans rfl; have hcz145_3 : w143.cell? ⟨gb145, 3, none⟩ = some (.int .i64 0) := (blk_cell BK145.out 3).trans rfl; have hfz145_0 := blk_frozen BK145.out 0; have hfz145_1 := blk_frozen BK145.out 1; have hfz145_2 := blk_frozen BK145.out 2; have hfz145_3 := blk_frozen BK145.out 3; have hcz146_0 : w143.cell? ⟨gb143, 0, none⟩ = some (.string x144000_3) := (blk_cell BK143.out 0).trans rfl; have hcz146_1 : w143.cell? ⟨gb143, 1, none⟩ = some (.int .i64 x144001_3) := (blk_cell BK143.out 1).trans rfl; have hcz146_2 : w143.cell? ⟨gb143, 2, none⟩ = some (.int .i64 x144002_3) := (blk_cell BK143.out 2).trans rfl; have hcz146_3 : w143.cell? ⟨gb143, 3, none⟩ = some (.int .i64 x144003_3) := (blk_cell BK143.out 3).trans rfl; have hfz146_0 := blk_frozen BK143.out 0; have hfz146_1 := blk_frozen BK143.out 1; have hfz146_2 := blk_frozen BK143.out 2; have hfz146_3 := blk_frozen BK143.out 3))
               repeat (go_quiet (first | ((with_reducible refine gate_dst (N := 19) rfl ?_); (try (refine gate_guard (by rfl) ?_; dsimp only)); refine box_event ?hg (N := 19) ?hd (cs := #[.string (⟨#[]⟩ : ByteArray), .int .i64 0, .int .i64 0, .int .i64 0]) (t := 31) ?hr ?_; (case hd => rfl); (case hg => rfl); (case hr => first | (go_simp; done) | (go_simp; rfl)); intro gb145 hg w143 hbox hb; have n0_ := Aside0.mk (Kd.R_below (Kd.R_elderB (by (with_reducible repeat (first | apply Kd.R_alloc | apply Kd.R_drewN | apply Kd.R_drew)); exact HO_9.out) gb145 (Nat.le_of_eq hg.symm)) hb); have n1_ := Aside0.mk (blk_below (g := gb143) (o := .cells #[.string x144000_3, .int .i64 x144001_3, .int .i64 x144002_3, .int .i64 x144003_3] 31 (0, 0)) (by (with_reducible repeat (first | refine blk_drewN ?_ _ | refine blk_drew ?_ | refine blk_alloc ?_ _)); exact BK143.out) hb); have n2_ := Aside0.mk (below_step (by repeat (first | (with_reducible first | exact HB.out | apply below_alloc | apply pw_below_drewN | apply below_drew1 | refine below_set ?_ GE143.out) | exact HB.out)) hb); have n3_ := Aside0.mk (hbox); have n4_ := Aside0.mk ((by rw [hg]; exact (below_size (by repeat (first | (with_reducible first | exact HB.out | apply below_alloc | apply pw_below_drewN | apply below_drew1 | refine below_set ?_ GE143.out) | exact HB.out))) : w.heap.size ≤ gb145)); have n5_ := Aside0.mk ((by rw [hg]; exact (below_size (by repeat (first | (with_reducible first | exact HB.out | apply below_alloc | apply pw_below_drewN | apply below_drew1 | refine below_set ?_ GE143.out) | exact HB.out))) : w.heap.size ≤ gb145)); have n6_ := Aside0.mk ((by rw [hg]; exact Nat.ne_of_lt (blk_lt (g := gb143) (o := .cells #[.string x144000_3, .int .i64 x144001_3, .int .i64 x144002_3, .int .i64 x144003_3] 31 (0, 0)) (by (with_reducible repeat (first | refine blk_drewN ?_ _ | refine blk_drew ?_ | refine blk_alloc ?_ _)); exact BK143.out)) : gb143 ≠ gb145)); have n7_ := Aside0.mk ((by rw [hg]; exact Nat.ne_of_gt (blk_lt (g := gb143) (o := .cells #[.string x144000_3, .int .i64 x144001_3, .int .i64 x144002_3, .int .i64 x144003_3] 31 (0, 0)) (by (with_reducible repeat (first | refine blk_drewN ?_ _ | refine blk_drew ?_ | refine blk_alloc ?_ _)); exact BK143.out)) : gb145 ≠ gb143)); clear HO_9; clear BK143; clear HB; have HO_9 := n0_; have BK143 := n1_; have HB := n2_; have BK145 := n3_; have GW145 := n4_; have GE145 := n5_; have NB143_145 := n6_; have NB145_143 := n7_; clear n0_ n1_ n2_ n3_ n4_ n5_ n6_ n7_; clear hb hbox hg; have hnb144 := NB145_143.out; have hnc144 := NB143_145.out; have hcz145_0 : w143.cell? ⟨gb145, 0, none⟩ = some (.string (⟨#[]⟩ : ByteArray)) := (blk_cell BK145.out 0).trans rfl; have hcz145_1 : w143.cell? ⟨gb145, 1, none⟩ = some (.int .i64 0) := (blk_cell BK145.out 1).trans rfl; have hcz145_2 : w143.cell? ⟨gb145, 2, none⟩ = some (.int .i64 0) := (blk_cell BK145.out 2).trans rfl; have hcz145_3 : w143.cell? ⟨gb145, 3, none⟩ = some (.int .i64 0) := (blk_cell BK145.out 3).trans rfl; have hfz145_0 := blk_frozen BK145.out 0; have hfz145_1 := blk_frozen BK145.out 1; have hfz145_2 := blk_frozen BK145.out 2; have hfz145_3 := blk_frozen BK145.out 3; have hcz146_0 : w143.cell? ⟨gb143, 0, none⟩ = some (.string x144000_3) := (blk_cell BK143.out 0).trans rfl; have hcz146_1 : w143.cell? ⟨gb143, 1, none⟩ = some (.int .i64 x144001_3) := (blk_cell BK143.out 1).trans rfl; have hcz146_2 : w143.cell? ⟨gb143, 2, none⟩ = some (.int .i64 x144002_3) := (blk_cell BK143.out 2).trans rfl; have hcz146_3 : w143.cell? ⟨gb143, 3, none⟩ = some (.int .i64 x144003_3) := (blk_cell BK143.out 3).trans rfl; have hfz146_0 := blk_frozen BK143.out 0; have hfz146_1 := blk_frozen BK143.out 1; have hfz146_2 := blk_frozen BK143.out 2; have hfz146_3 := blk_frozen BK143.out 3)); try go_wp2_with (first | ((with_reducible refine gate_dst (N := 19) rfl ?_); (try (refine gate_guard (by rfl) ?_; dsimp only)); refine box_event ?hg (N := 19) ?hd (cs := #[.string (⟨#[]⟩ : ByteArray), .int .i64 0, .int .i64 0, .int .i64 0]) (t := 31) ?hr ?_; (case hd => rfl); (case hg => rfl); (case hr => first | (go_simp; done) | (go_simp; rfl)); intro gb145 hg w143 hbox hb; have n0_ := Aside0.mk (Kd.R_below (Kd.R_elderB (by (with_reducible repeat (first | apply Kd.R_alloc | apply Kd.R_drewN | apply Kd.R_drew)); exact HO_9.out) gb145 (Nat.le_of_eq hg.symm)) hb); have n1_ := Aside0.mk (blk_below (g := gb143) (o := .cells #[.string x144000_3, .int .i64 x144001_3, .int .i64 x144002_3, .int .i64 x144003_3] 31 (0, 0)) (by (with_reducible repeat (first | refine blk_drewN ?_ _ | refine blk_drew ?_ | refine blk_alloc ?_ _)); exact BK143.out) hb); have n2_ := Aside0.mk (below_step (by repeat (first | (with_reducible first | exact HB.out | apply below_alloc | apply pw_below_drewN | apply below_drew1 | refine below_set ?_ GE143.out) | exact HB.out)) hb); have n3_ := Aside0.mk (hbox); have n4_ := Aside0.mk ((by rw [hg]; exact (below_size (by repeat (first | (with_reducible first | exact HB.out | apply below_alloc | apply pw_below_drewN | apply below_drew1 | refine below_set ?_ GE143.out) | exact HB.out))) : w.heap.size ≤ gb145)); have n5_ := Aside0.mk ((by rw [hg]; exact (below_size (by repeat (first | (with_reducible first | exact HB.out | apply below_alloc | apply pw_below_drewN | apply below_drew1 | refine below_set ?_ GE143.out) | exact HB.out))) : w.heap.size ≤ gb145)); have n6_ := Aside0.mk ((by rw [hg]; exact Nat.ne_of_lt (blk_lt (g := gb143) (o := .cells #[.string x144000_3, .int .i64 x144001_3, .int .i64 x144002_3, .int .i64 x144003_3] 31 (0, 0)) (by (with_reducible repeat (first | refine blk_drewN ?_ _ | refine blk_drew ?_ | refine blk_alloc ?_ _)); exact BK143.out)) : gb143 ≠ gb145)); have n7_ := Aside0.mk ((by rw [hg]; exact Nat.ne_of_gt (blk_lt (g := gb143) (o := .cells #[.string x144000_3, .int .i64 x144001_3, .int .i64 x144002_3, .int .i64 x144003_3] 31 (0, 0)) (by (with_reducible repeat (first | refine blk_drewN ?_ _ | refine blk_drew ?_ | refine blk_alloc ?_ _)); exact BK143.out)) : gb145 ≠ gb143)); clear HO_9; clear BK143; clear HB; have HO_9 := n0_; have BK143 := n1_; have HB := n2_; have BK145 := n3_; have GW145 := n4_; have GE145 := n5_; have NB143_145 := n6_; have NB145_143 := n7_; clear n0_ n1_ n2_ n3_ n4_ n5_ n6_ n7_; clear hb hbox hg; have hnb144 := NB145_143.out; have hnc144 := NB143_145.out; have hcz145_0 : w143.cell? ⟨gb145, 0, none⟩ = some (.string (⟨#[]⟩ : ByteArray)) := (blk_cell BK145.out 0).trans rfl; have hcz145_1 : w143.cell? ⟨gb145, 1, none⟩ = some (.int .i64 0) := (blk_cell BK145.out 1).trans rfl; have hcz145_2 : w143.cell? ⟨gb145, 2, none⟩ = some (.int .i64 0) := (blk_cell BK145.out 2).trans rfl; have hcz145_3 : w143.cell? ⟨gb145, 3, none⟩ = some (.int .i64 0) := (blk_cell BK145.out 3).trans rfl; have hfz145_0 := blk_frozen BK145.out 0; have hfz145_1 := blk_frozen BK145.out 1; have hfz145_2 := blk_frozen BK145.out 2; have hfz145_3 := blk_frozen BK145.out 3; have hcz146_0 : w143.cell? ⟨gb143, 0, none⟩ = some (.string x144000_3) := (blk_cell BK143.out 0).trans rfl; have hcz146_1 : w143.cell? ⟨gb143, 1, none⟩ = some (.int .i64 x144001_3) := (blk_cell BK143.out 1).trans rfl; have hcz146_2 : w143.cell? ⟨gb143, 2, none⟩ = some (.int .i64 x144002_3) := (blk_cell BK143.out 2).trans rfl; have hcz146_3 : w143.cell? ⟨gb143, 3, none⟩ = some (.int .i64 x144003_3) := (blk_cell BK143.out 3).trans rfl; have hfz146_0 := blk_frozen BK143.out 0; have hfz146_1 := blk_frozen BK143.out 1; have hfz146_2 := blk_frozen BK143.out 2; have hfz146_3 := blk_frozen BK143.out 3)))
               go_roundg k3
               case measure => have := HJ6.out; have := HK2.out; have := HK3.out; omega
               case rel => exact ⟨(true), (wrap64 (x123_3 + 1)), ((rd_T31 l3 x123_3).f0), ((rd_T31 l3 x123_3).f1), ((rd_T31 l3 x123_3).f2), ((rd_T31 l3 x123_3).f3), (by first | rfl | (simp; done) | (simp [*]; done)), (by first | rfl | (simp; done) | (simp [*]; done)), H', ⟨by have := HJ6.out; have := HK2.out; have := HK3.out; omega⟩, ⟨by (with_reducible repeat (first | apply Kd.R_alloc | apply Kd.R_drewN | apply Kd.R_drew)); exact Kd.R_mono (Kd.R_far (p := ⟨gb143, 3, none⟩) (Kd.R_far (p := ⟨gb143, 2, none⟩) (Kd.R_far (p := ⟨gb143, 1, none⟩) (Kd.R_far (p := ⟨gb143, 0, none⟩) (Kd.R_far (p := ⟨gb145, 3, none⟩) (Kd.R_far (p := ⟨gb145, 2, none⟩) (Kd.R_far (p := ⟨gb145, 1, none⟩) (Kd.R_far (p := ⟨gb145, 0, none⟩) (Kd.R_mono (Kd.R_mono HO_9.out (fun k_ hk => (⟨hk, hk.2⟩ : _ ∧ k_ ≠ gb145))) (fun k_ hk => (⟨hk, hk.1.1⟩ : _ ∧ k_ ≠ gb143))) (fun _ hk => hk.1.2) (.string ((rd_T31 l3 x123_3).f0))) (fun _ hk => hk.1.2) (.int .i64 ((rd_T31 l3 x123_3).f1))) (fun _ hk => hk.1.2) (.int .i64 ((rd_T31 l3 x123_3).f2))) (fun _ hk => hk.1.2) (.int .i64 ((rd_T31 l3 x123_3).f3))) (fun _ hk => hk.2) (.string ((rd_T31 l3 x123_3).f0))) (fun _ hk => hk.2) (.int .i64 ((rd_T31 l3 x123_3).f1))) (fun _ hk => hk.2) (.int .i64 ((rd_T31 l3 x123_3).f2))) (fun _ hk => hk.2) (.int .i64 ((rd_T31 l3 x123_3).f3))) (fun _ hk => hk.1.1.1)⟩, ⟨by (with_reducible repeat (first | refine blk_drewN ?_ _ | refine blk_drew ?_ | refine blk_alloc ?_ _)); refine blk_put (cs := #[.string ((rd_T31 l3 x123_3).f0), .int .i64 ((rd_T31 l3 x123_3).f1), .int .i64 ((rd_T31 l3 x123_3).f2), .int .i64 x144003_3]) ?_ 3 _ rfl; (with_reducible repeat (first | refine blk_drewN ?_ _ | refine blk_drew ?_ | refine blk_alloc ?_ _)); refine blk_put (cs := #[.string ((rd_T31 l3 x123_3).f0), .int .i64 ((rd_T31 l3 x123_3).f1), .int .i64 x144002_3, .int .i64 x144003_3]) ?_ 2 _ rfl; (with_reducible repeat (first | refine blk_drewN ?_ _ | refine blk_drew ?_ | refine blk_alloc ?_ _)); refine blk_put (cs := #[.string ((rd_T31 l3 x123_3).f0), .int .i64 x144001_3, .int .i64 x144002_3, .int .i64 x144003_3]) ?_ 1 _ rfl; (with_reducible repeat (first | refine blk_drewN ?_ _ | refine blk_drew ?_ | refine blk_alloc ?_ _)); refine blk_put (cs := #[.string x144000_3, .int .i64 x144001_3, .int .i64 x144002_3, .int .i64 x144003_3]) ?_ 0 _ rfl; (with_reducible repeat (first | refine blk_drewN ?_ _ | refine blk_drew ?_ | refine blk_alloc ?_ _)); refine blk_far ?_ NB143_145.out _; (with_reducible repeat (first | refine blk_drewN ?_ _ | refine blk_drew ?_ | refine blk_alloc ?_ _)); refine blk_far ?_ NB143_145.out _; (with_reducible repeat (first | refine blk_drewN ?_ _ | refine blk_drew ?_ | refine blk_alloc ?_ _)); refine blk_far ?_ NB143_145.out _; (with_reducible repeat (first | refine blk_drewN ?_ _ | refine blk_drew ?_ | refine blk_alloc ?_ _)); refine blk_far ?_ NB143_145.out _; (with_reducible repeat (first | refine blk_drewN ?_ _ | refine blk_drew ?_ | refine blk_alloc ?_ _)); exact BK143.out⟩, ⟨by repeat (first | (with_reducible first | exact HB.out | apply below_alloc | apply pw_below_drewN | apply below_drew1 | refine below_set ?_ GE143.out | refine below_set ?_ GE145.out) | exact HB.out)⟩⟩
              ·rw [if_neg c142] at H
               have c142b0 : (((rd_T31 l3 x123_3).f0).toList == a1.toList) = false := beq_eq_false_iff_ne.mpr c142
               have c142b1 : (((rd_T31 l3 x123_3).f0).toList != a1.toList) = true := bne_iff_ne.mpr c142
               have H' := Aside0.mk H
               clear H
               have p144 : 0 ≤ (x123_3 : Int) := of_decide_eq_true (by first | (with_reducible assumption) | assumption)
               have q144 : x123_3 < (l3.length : Int) := of_decide_eq_true (by first | (with_reducible assumption) | assumption)
               obtain ⟨ad144, e144, hx144_0, hx144_1, hx144_2, hx144_3⟩ := at_T31 HR3.out x123_3 p144 q144
               cases e144
               replace hx144_0 := (HB.out.cell (World.block_lt_of_cell? w _ hx144_0)).trans hx144_0
               replace hx144_1 := (HB.out.cell (World.block_lt_of_cell? w _ hx144_1)).trans hx144_1
               replace hx144_2 := (HB.out.cell (World.block_lt_of_cell? w _ hx144_2)).trans hx144_2
               replace hx144_3 := (HB.out.cell (World.block_lt_of_cell? w _ hx144_3)).trans hx144_3
               replace p144 := eq_true p144
               replace q144 := eq_true q144
               go_wp2_with (first | ((with_reducible refine gate_dst (N := 19) rfl ?_); (try (refine gate_guard (by rfl) ?_; dsimp only)); refine box_event ?hg (N := 19) ?hd (cs := #[.string (⟨#[]⟩ : ByteArray), .int .i64 0, .int .i64 0, .int .i64 0]) (t := 31) ?hr ?_; (case hd => rfl); (case hg => rfl); (case hr => first | (go_simp; done) | (go_simp; rfl)); intro gb145 hg w147 hbox hb; have n0_ := Aside0.mk (Kd.R_below (Kd.R_elderB (by (with_reducible repeat (first | apply Kd.R_alloc | apply Kd.R_drewN | apply Kd.R_drew)); exact HO_9.out) gb145 (Nat.le_of_eq hg.symm)) hb); have n1_ := Aside0.mk (blk_below (g := gb143) (o := .cells #[.string x144000_3, .int .i64 x144001_3, .int .i64 x144002_3, .int .i64 x144003_3] 31 (0, 0)) (by (with_reducible repeat (first | refine blk_drewN ?_ _ | refine blk_drew ?_ | refine blk_alloc ?_ _)); exact BK143.out) hb); have n2_ := Aside0.mk (below_step (by repeat (first | (with_reducible first | exact HB.out | apply below_alloc | apply pw_below_drewN | apply below_drew1 | refine below_set ?_ GE143.out) | exact HB.out)) hb); have n3_ := Aside0.mk (hbox); have n4_ := Aside0.mk ((by rw [hg]; exact (below_size (by repeat (first | (with_reducible first | exact HB.out | apply below_alloc | apply pw_below_drewN | apply below_drew1 | refine below_set ?_ GE143.out) | exact HB.out))) : w.heap.size ≤ gb145)); have n5_ := Aside0.mk ((by rw [hg]; exact (below_size (by repeat (first | (with_reducible first | exact HB.out | apply below_alloc | apply pw_below_drewN | apply below_drew1 | refine below_set ?_ GE143.out) | exact HB.out))) : w.heap.size ≤ gb145)); have n6_ := Aside0.mk ((by rw [hg]; exact Nat.ne_of_lt (blk_lt (g := gb143) (o := .cells #[.string x144000_3, .int .i64 x144001_3, .int .i64 x144002_3, .int .i64 x144003_3] 31 (0, 0)) (by (with_reducible repeat (first | refine blk_drewN ?_ _ | refine blk_drew ?_ | refine blk_alloc ?_ _)); exact BK143.out)) : gb143 ≠ gb145)); have n7_ := Aside0.mk ((by rw [hg]; exact Nat.ne_of_gt (blk_lt (g := gb143) (o := .cells #[.string x144000_3, .int .i64 x144001_3, .int .i64 x144002_3, .int .i64 x144003_3] 31 (0, 0)) (by (with_reducible repeat (first | refine blk_drewN ?_ _ | refine blk_drew ?_ | refine blk_alloc ?_ _)); exact BK143.out)) : gb145 ≠ gb143)); clear HO_9; clear BK143; clear HB; have HO_9 := n0_; have BK143 := n1_; have HB := n2_; have BK145 := n3_; have GW145 := n4_; have GE145 := n5_; have NB143_145 := n6_; have NB145_143 := n7_; clear n0_ n1_ n2_ n3_ n4_ n5_ n6_ n7_; clear hb hbox hg; have hnb148 := NB145_143.out; have hnc148 := NB143_145.out; have hcz149_0 : w147.cell? ⟨gb145, 0, none⟩ = some (.string (⟨#[]⟩ : ByteArray)) := (blk_cell BK145.out 0).trans rfl; have hcz149_1 : w147.cell? ⟨gb145, 1, none⟩ = some (.int .i64 0) := (blk_cell BK145.out 1).trans rfl; have hcz149_2 : w147.cell? ⟨gb145, 2, none⟩ = some (.int .i64 0) := (blk_cell BK145.out 2).trans rfl; have hcz149_3 : w147.cell? ⟨gb145, 3, none⟩ = some (.int .i64 0) := (blk_cell BK145.out 3).trans rfl; have hfz149_0 := blk_frozen BK145.out 0; have hfz149_1 := blk_frozen BK145.out 1; have hfz149_2 := blk_frozen BK145.out 2; have hfz149_3 := blk_frozen BK145.out 3))
               repeat (go_quiet (first | ((with_reducible refine gate_dst (N := 19) rfl ?_); (try (refine gate_guard (by rfl) ?_; dsimp only)); refine box_event ?hg (N := 19) ?hd (cs := #[.string (⟨#[]⟩ : ByteArray), .int .i64 0, .int .i64 0, .int .i64 0]) (t := 31) ?hr ?_; (case hd => rfl); (case hg => rfl); (case hr => first | (go_simp; done) | (go_simp; rfl)); intro gb145 hg w147 hbox hb; have n0_ := Aside0.mk (Kd.R_below (Kd.R_elderB (by (with_reducible repeat (first | apply Kd.R_alloc | apply Kd.R_drewN | apply Kd.R_drew)); exact HO_9.out) gb145 (Nat.le_of_eq hg.symm)) hb); have n1_ := Aside0.mk (blk_below (g := gb143) (o := .cells #[.string x144000_3, .int .i64 x144001_3, .int .i64 x144002_3, .int .i64 x144003_3] 31 (0, 0)) (by (with_reducible repeat (first | refine blk_drewN ?_ _ | refine blk_drew ?_ | refine blk_alloc ?_ _)); exact BK143.out) hb); have n2_ := Aside0.mk (below_step (by repeat (first | (with_reducible first | exact HB.out | apply below_alloc | apply pw_below_drewN | apply below_drew1 | refine below_set ?_ GE143.out) | exact HB.out)) hb); have n3_ := Aside0.mk (hbox); have n4_ := Aside0.mk ((by rw [hg]; exact (below_size (by repeat (first | (with_reducible first | exact HB.out | apply below_alloc | apply pw_below_drewN | apply below_drew1 | refine below_set ?_ GE143.out) | exact HB.out))) : w.heap.size ≤ gb145)); have n5_ := Aside0.mk ((by rw [hg]; exact (below_size (by repeat (first | (with_reducible first | exact HB.out | apply below_alloc | apply pw_below_drewN | apply below_drew1 | refine below_set ?_ GE143.out) | exact HB.out))) : w.heap.size ≤ gb145)); have n6_ := Aside0.mk ((by rw [hg]; exact Nat.ne_of_lt (blk_lt (g := gb143) (o := .cells #[.string x144000_3, .int .i64 x144001_3, .int .i64 x144002_3, .int .i64 x144003_3] 31 (0, 0)) (by (with_reducible repeat (first | refine blk_drewN ?_ _ | refine blk_drew ?_ | refine blk_alloc ?_ _)); exact BK143.out)) : gb143 ≠ gb145)); have n7_ := Aside0.mk ((by rw [hg]; exact Nat.ne_of_gt (blk_lt (g := gb143) (o := .cells #[.string x144000_3, .int .i64 x144001_3, .int .i64 x144002_3, .int .i64 x144003_3] 31 (0, 0)) (by (with_reducible repeat (first | refine blk_drewN ?_ _ | refine blk_drew ?_ | refine blk_alloc ?_ _)); exact BK143.out)) : gb145 ≠ gb143)); clear HO_9; clear BK143; clear HB; have HO_9 := n0_; have BK143 := n1_; have HB := n2_; have BK145 := n3_; have GW145 := n4_; have GE145 := n5_; have NB143_145 := n6_; have NB145_143 := n7_; clear n0_ n1_ n2_ n3_ n4_ n5_ n6_ n7_; clear hb hbox hg; have hnb148 := NB145_143.out; have hnc148 := NB143_145.out; have hcz149_0 : w147.cell? ⟨gb145, 0, none⟩ = some (.string (⟨#[]⟩ : ByteArray)) := (blk_cell BK145.out 0).trans rfl; have hcz149_1 : w147.cell? ⟨gb145, 1, none⟩ = some (.int .i64 0) := (blk_cell BK145.out 1).trans rfl; have hcz149_2 : w147.cell? ⟨gb145, 2, none⟩ = some (.int .i64 0) := (blk_cell BK145.out 2).trans rfl; have hcz149_3 : w147.cell? ⟨gb145, 3, none⟩ = some (.int .i64 0) := (blk_cell BK145.out 3).trans rfl; have hfz149_0 := blk_frozen BK145.out 0; have hfz149_1 := blk_frozen BK145.out 1; have hfz149_2 := blk_frozen BK145.out 2; have hfz149_3 := blk_frozen BK145.out 3)); try go_wp2_with (first | ((with_reducible refine gate_dst (N := 19) rfl ?_); (try (refine gate_guard (by rfl) ?_; dsimp only)); refine box_event ?hg (N := 19) ?hd (cs := #[.string (⟨#[]⟩ : ByteArray), .int .i64 0, .int .i64 0, .int .i64 0]) (t := 31) ?hr ?_; (case hd => rfl); (case hg => rfl); (case hr => first | (go_simp; done) | (go_simp; rfl)); intro gb145 hg w147 hbox hb; have n0_ := Aside0.mk (Kd.R_below (Kd.R_elderB (by (with_reducible repeat (first | apply Kd.R_alloc | apply Kd.R_drewN | apply Kd.R_drew)); exact HO_9.out) gb145 (Nat.le_of_eq hg.symm)) hb); have n1_ := Aside0.mk (blk_below (g := gb143) (o := .cells #[.string x144000_3, .int .i64 x144001_3, .int .i64 x144002_3, .int .i64 x144003_3] 31 (0, 0)) (by (with_reducible repeat (first | refine blk_drewN ?_ _ | refine blk_drew ?_ | refine blk_alloc ?_ _)); exact BK143.out) hb); have n2_ := Aside0.mk (below_step (by repeat (first | (with_reducible first | exact HB.out | apply below_alloc | apply pw_below_drewN | apply below_drew1 | refine below_set ?_ GE143.out) | exact HB.out)) hb); have n3_ := Aside0.mk (hbox); have n4_ := Aside0.mk ((by rw [hg]; exact (below_size (by repeat (first | (with_reducible first | exact HB.out | apply below_alloc | apply pw_below_drewN | apply below_drew1 | refine below_set ?_ GE143.out) | exact HB.out))) : w.heap.size ≤ gb145)); have n5_ := Aside0.mk ((by rw [hg]; exact (below_size (by repeat (first | (with_reducible first | exact HB.out | apply below_alloc | apply pw_below_drewN | apply below_drew1 | refine below_set ?_ GE143.out) | exact HB.out))) : w.heap.size ≤ gb145)); have n6_ := Aside0.mk ((by rw [hg]; exact Nat.ne_of_lt (blk_lt (g := gb143) (o := .cells #[.string x144000_3, .int .i64 x144001_3, .int .i64 x144002_3, .int .i64 x144003_3] 31 (0, 0)) (by (with_reducible repeat (first | refine blk_drewN ?_ _ | refine blk_drew ?_ | refine blk_alloc ?_ _)); exact BK143.out)) : gb143 ≠ gb145)); have n7_ := Aside0.mk ((by rw [hg]; exact Nat.ne_of_gt (blk_lt (g := gb143) (o := .cells #[.string x144000_3, .int .i64 x144001_3, .int .i64 x144002_3, .int .i64 x144003_3] 31 (0, 0)) (by (with_reducible repeat (first | refine blk_drewN ?_ _ | refine blk_drew ?_ | refine blk_alloc ?_ _)); exact BK143.out)) : gb145 ≠ gb143)); clear HO_9; clear BK143; clear HB; have HO_9 := n0_; have BK143 := n1_; have HB := n2_; have BK145 := n3_; have GW145 := n4_; have GE145 := n5_; have NB143_145 := n6_; have NB145_143 := n7_; clear n0_ n1_ n2_ n3_ n4_ n5_ n6_ n7_; clear hb hbox hg; have hnb148 := NB145_143.out; have hnc148 := NB143_145.out; have hcz149_0 : w147.cell? ⟨gb145, 0, none⟩ = some (.string (⟨#[]⟩ : ByteArray)) := (blk_cell BK145.out 0).trans rfl; have hcz149_1 : w147.cell? ⟨gb145, 1, none⟩ = some (.int .i64 0) := (blk_cell BK145.out 1).trans rfl; have hcz149_2 : w147.cell? ⟨gb145, 2, none⟩ = some (.int .i64 0) := (blk_cell BK145.out 2).trans rfl; have hcz149_3 : w147.cell? ⟨gb145, 3, none⟩ = some (.int .i64 0) := (blk_cell BK145.out 3).trans rfl; have hfz149_0 := blk_frozen BK145.out 0; have hfz149_1 := blk_frozen BK145.out 1; have hfz149_2 := blk_frozen BK145.out 2; have hfz149_3 := blk_frozen BK145.out 3)))
               go_roundg k3
               case measure => have := HJ6.out; have := HK2.out; have := HK3.out; omega
               case rel => exact ⟨(false), (wrap64 (x123_3 + 1)), (x144000_3), (x144001_3), (x144002_3), (x144003_3), (by first | rfl | (simp; done) | (simp [*]; done)), (by first | rfl | (simp; done) | (simp [*]; done)), H', ⟨by have := HJ6.out; have := HK2.out; have := HK3.out; omega⟩, ⟨by (with_reducible repeat (first | apply Kd.R_alloc | apply Kd.R_drewN | apply Kd.R_drew)); exact Kd.R_mono (Kd.R_far (p := ⟨gb145, 3, none⟩) (Kd.R_far (p := ⟨gb145, 2, none⟩) (Kd.R_far (p := ⟨gb145, 1, none⟩) (Kd.R_far (p := ⟨gb145, 0, none⟩) (Kd.R_mono HO_9.out (fun k_ hk => (⟨hk, hk.2⟩ : _ ∧ k_ ≠ gb145))) (fun _ hk => hk.2) (.string ((rd_T31 l3 x123_3).f0))) (fun _ hk => hk.2) (.int .i64 ((rd_T31 l3 x123_3).f1))) (fun _ hk => hk.2) (.int .i64 ((rd_T31 l3 x123_3).f2))) (fun _ hk => hk.2) (.int .i64 ((rd_T31 l3 x123_3).f3))) (fun _ hk => hk.1.1)⟩, ⟨by (with_reducible repeat (first | refine blk_drewN ?_ _ | refine blk_drew ?_ | refine blk_alloc ?_ _)); refine blk_far ?_ NB143_145.out _; (with_reducible repeat (first | refine blk_drewN ?_ _ | refine blk_drew ?_ | refine blk_alloc ?_ _)); refine blk_far ?_ NB143_145.out _; (with_reducible repeat (first | refine blk_drewN ?_ _ | refine blk_drew ?_ | refine blk_alloc ?_ _)); refine blk_far ?_ NB143_145.out _; (with_reducible repeat (first | refine blk_drewN ?_ _ | refine blk_drew ?_ | refine blk_alloc ?_ _)); refine blk_far ?_ NB143_145.out _; (with_reducible repeat (first | refine blk_drewN ?_ _ | refine blk_drew ?_ | refine blk_alloc ?_ _)); exact BK143.out⟩, ⟨by repeat (first | (with_reducible first | exact HB.out | apply below_alloc | apply pw_below_drewN | apply below_drew1 | refine below_set ?_ GE143.out | refine below_set ?_ GE145.out) | exact HB.out)⟩⟩
            ·rw [if_neg c137] at H
             exact absurd H (by simp)
           ·rw [if_neg c136] at H
            exact absurd H (by simp)
          ·rw [if_neg c135] at H
           have c135b0 : decide (x123_3 < (l3.length : Int)) = false := decide_eq_false c135
           clear c135
           replace H := Option.bind_eq_some_iff.mp H
           obtain ⟨⟨t146, t147, t148, t149, t150⟩, A1500, H⟩ := H
           replace H : (if x10_2 = (t130.length : Int) then ((usage_Below.f a1 a2).bind fun t152 => ((sumplaw42_below.f a1 a2).bind fun t153 => (if (t152 == t153) = true then (if t146.toList = x144000_3.toList then (if t147 = x144001_3 then (if t148 = x144002_3 then (if t149 = x144003_3 then (some (t150 == x17_3)) else (some false)) else (some false)) else (some false)) else (some false)) else (some false)))) else (some false)) = some r := H
           have A150 := Aside0.mk A1500
           clear A1500
           by_cases c151 : x10_2 = (t130.length : Int)
           ·rw [if_pos c151] at H
            have c151b0 : (x10_2 == (t130.length : Int)) = true := beq_iff_eq.mpr c151
            have c151b1 : (x10_2 != (t130.length : Int)) = false := bne_eq_false_iff_eq.mpr c151
            clear c151
            replace H := Option.bind_eq_some_iff.mp H
            obtain ⟨t152, A1520, H⟩ := H
            replace H : ((sumplaw42_below.f a1 a2).bind fun t153 => (if (t152 == t153) = true then (if t146.toList = x144000_3.toList then (if t147 = x144001_3 then (if t148 = x144002_3 then (if t149 = x144003_3 then (some (t150 == x17_3)) else (some false)) else (some false)) else (some false)) else (some false)) else (some false))) = some r := H
            have A152 := Aside0.mk A1520
            clear A1520
            replace H := Option.bind_eq_some_iff.mp H
            obtain ⟨t153, A1530, H⟩ := H
            replace H : (if (t152 == t153) = true then (if t146.toList = x144000_3.toList then (if t147 = x144001_3 then (if t148 = x144002_3 then (if t149 = x144003_3 then (some (t150 == x17_3)) else (some false)) else (some false)) else (some false)) else (some false)) else (some false)) = some r := H
            have A153 := Aside0.mk A1530
            clear A1530
            by_cases c154 : (t152 == t153) = true
            ·rw [if_pos c154] at H
             have c154b0 : (t152 == t153) = true := c154
             (try (have c154b1 : decide (t152 = t153) = true := by simpa using c154))
             (try (have c154b2 : (t152 == t153) = true := by simpa using c154))
             clear c154
             by_cases c155 : t146.toList = x144000_3.toList
             ·rw [if_pos c155] at H
              have c155b0 : (t146.toList == x144000_3.toList) = true := beq_iff_eq.mpr c155
              have c155b1 : (t146.toList != x144000_3.toList) = false := bne_eq_false_iff_eq.mpr c155
              clear c155
              by_cases c156 : t147 = x144001_3
              ·rw [if_pos c156] at H
               have c156b0 : (t147 == x144001_3) = true := beq_iff_eq.mpr c156
               have c156b1 : (t147 != x144001_3) = false := bne_eq_false_iff_eq.mpr c156
               clear c156
               by_cases c157 : t148 = x144002_3
               ·rw [if_pos c157] at H
                have c157b0 : (t148 == x144002_3) = true := beq_iff_eq.mpr c157
                have c157b1 : (t148 != x144002_3) = false := bne_eq_false_iff_eq.mpr c157
                clear c157
                by_cases c158 : t149 = x144003_3
                ·rw [if_pos c158] at H
                 have c158b0 : (t149 == x144003_3) = true := beq_iff_eq.mpr c158
                 have c158b1 : (t149 != x144003_3) = false := bne_eq_false_iff_eq.mpr c158
                 clear c158
                 obtain rfl := Option.some.inj H
                 go_wp2_with (first | (go_at_call 12; (with_reducible refine (usage_At.calls k3 _ _ l3 a1 t146 t147 t148 t149 t150 _ ?side1 ?side2 A150.out).mono ?_); (case side1 => repeat (first | exact (Kd.C_below HR3.out HB.out) | (with_reducible refine Kd.C_alloc ?_ _) | (with_reducible refine Kd.C_drewN ?_ _) | (with_reducible refine Kd.C_drew ?_))); (case side2 => exact HC3.out); rintro e w159 ⟨rfl, hb⟩; have n0_ := Aside0.mk (Kd.R_below (by (with_reducible repeat (first | apply Kd.R_alloc | apply Kd.R_drewN | apply Kd.R_drew)); exact HO_9.out) hb); have n1_ := Aside0.mk (blk_below (g := gb143) (o := .cells #[.string x144000_3, .int .i64 x144001_3, .int .i64 x144002_3, .int .i64 x144003_3] 31 (0, 0)) (by (with_reducible repeat (first | refine blk_drewN ?_ _ | refine blk_drew ?_ | refine blk_alloc ?_ _)); exact BK143.out) hb); have n2_ := Aside0.mk (below_step (by repeat (first | (with_reducible first | exact HB.out | apply below_alloc | apply pw_below_drewN | apply below_drew1 | refine below_set ?_ GE143.out) | exact HB.out)) hb); clear HO_9; clear BK143; clear HB; have HO_9 := n0_; have BK143 := n1_; have HB := n2_; clear n0_ n1_ n2_; (try clear hb); (try clear hb2); (try clear hk); (try clear hi)) | ((with_reducible refine gate_dst (N := 20) rfl ?_); (try (refine gate_guard (by rfl) ?_; dsimp only)); refine box_event ?hg (N := 20) ?hd (cs := #[.string (⟨#[]⟩ : ByteArray), .int .i64 0, .int .i64 0, .int .i64 0]) (t := 31) ?hr ?_; (case hd => rfl); (case hg => rfl); (case hr => first | (go_simp; done) | (go_simp; rfl)); intro gb151 hg w160 hbox hb; have n0_ := Aside0.mk (Kd.R_below (Kd.R_elderB (by (with_reducible repeat (first | apply Kd.R_alloc | apply Kd.R_drewN | apply Kd.R_drew)); exact HO_9.out) gb151 (Nat.le_of_eq hg.symm)) hb); have n1_ := Aside0.mk (blk_below (g := gb143) (o := .cells #[.string x144000_3, .int .i64 x144001_3, .int .i64 x144002_3, .int .i64 x144003_3] 31 (0, 0)) (by (with_reducible repeat (first | refine blk_drewN ?_ _ | refine blk_drew ?_ | refine blk_alloc ?_ _)); exact BK143.out) hb); have n2_ := Aside0.mk (below_step (by repeat (first | (with_reducible first | exact HB.out | apply below_alloc | apply pw_below_drewN | apply below_drew1 | refine below_set ?_ GE143.out) | exact HB.out)) hb); have n3_ := Aside0.mk (hbox); have n4_ := Aside0.mk ((by rw [hg]; exact (below_size (by repeat (first | (with_reducible first | exact HB.out | apply below_alloc | apply pw_below_drewN | apply below_drew1 | refine below_set ?_ GE143.out) | exact HB.out))) : w.heap.size ≤ gb151)); have n5_ := Aside0.mk ((by rw [hg]; exact (below_size (by repeat (first | (with_reducible first | exact HB.out | apply below_alloc | apply pw_below_drewN | apply below_drew1 | refine below_set ?_ GE143.out) | exact HB.out))) : w.heap.size ≤ gb151)); have n6_ := Aside0.mk ((by rw [hg]; exact Nat.ne_of_lt (blk_lt (g := gb143) (o := .cells #[.string x144000_3, .int .i64 x144001_3, .int .i64 x144002_3, .int .i64 x144003_3] 31 (0, 0)) (by (with_reducible repeat (first | refine blk_drewN ?_ _ | refine blk_drew ?_ | refine blk_alloc ?_ _)); exact BK143.out)) : gb143 ≠ gb151)); have n7_ := Aside0.mk ((by rw [hg]; exact Nat.ne_of_gt (blk_lt (g := gb143) (o := .cells #[.string x144000_3, .int .i64 x144001_3, .int .i64 x144002_3, .int .i64 x144003_3] 31 (0, 0)) (by (with_reducible repeat (first | refine blk_drewN ?_ _ | refine blk_drew ?_ | refine blk_alloc ?_ _)); exact BK143.out)) : gb151 ≠ gb143)); clear HO_9; clear BK143; clear HB; have HO_9 := n0_; have BK143 := n1_; have HB := n2_; have BK151 := n3_; have GW151 := n4_; have GE151 := n5_; have NB143_151 := n6_; have NB151_143 := n7_; clear n0_ n1_ n2_ n3_ n4_ n5_ n6_ n7_; clear hb hbox hg; have hnb161 := NB151_143.out; have hnc161 := NB143_151.out; have hcz162_0 : w160.cell? ⟨gb151, 0, none⟩ = some (.string (⟨#[]⟩ : ByteArray)) := (blk_cell BK151.out 0).trans rfl; have hcz162_1 : w160.cell? ⟨gb151, 1, none⟩ = some (.int .i64 0) := (blk_cell BK151.out 1).trans rfl; have hcz162_2 : w160.cell? ⟨gb151, 2, none⟩ = some (.int .i64 0) := (blk_cell BK151.out 2).trans rfl; have hcz162_3 : w160.cell? ⟨gb151, 3, none⟩ = some (.int .i64 0) := (blk_cell BK151.out 3).trans rfl; have hfz162_0 := blk_frozen BK151.out 0; have hfz162_1 := blk_frozen BK151.out 1; have hfz162_2 := blk_frozen BK151.out 2; have hfz162_3 := blk_frozen BK151.out 3; obtain ⟨Ao163, co163, eo163⟩ := Kd.R_slice HO_9.out; subst eo163) | (go_at_call 13; (with_reducible refine (usage_Below.calls a1 a2 t152 _ A152.out).mono ?_); rintro e w' ⟨rfl, ⟨nd, rfl⟩⟩; (try first | exact ⟨rfl, _, World.drewN_drewN _ _ _⟩ | exact ⟨rfl, _, Eq.trans (World.drewN_drewN _ _ _) (congrArg (World.drewN _) (Nat.add_assoc _ _ _))⟩)) | (go_at_call 11; (with_reducible refine (sumplaw42_below.calls a1 a2 t153 _ A153.out).mono ?_); rintro e w' ⟨rfl, ⟨nd, rfl⟩⟩; (try first | exact ⟨rfl, _, World.drewN_drewN _ _ _⟩ | exact ⟨rfl, _, Eq.trans (World.drewN_drewN _ _ _) (congrArg (World.drewN _) (Nat.add_assoc _ _ _))⟩); have hcz164_0 : w160.cell? ⟨gb143, 0, none⟩ = some (.string x144000_3) := (blk_cell BK143.out 0).trans rfl; have hcz164_1 : w160.cell? ⟨gb143, 1, none⟩ = some (.int .i64 x144001_3) := (blk_cell BK143.out 1).trans rfl; have hcz164_2 : w160.cell? ⟨gb143, 2, none⟩ = some (.int .i64 x144002_3) := (blk_cell BK143.out 2).trans rfl; have hcz164_3 : w160.cell? ⟨gb143, 3, none⟩ = some (.int .i64 x144003_3) := (blk_cell BK143.out 3).trans rfl; have hfz164_0 := blk_frozen BK143.out 0; have hfz164_1 := blk_frozen BK143.out 1; have hfz164_2 := blk_frozen BK143.out 2; have hfz164_3 := blk_frozen BK143.out 3))
                 repeat (go_quiet (first | (go_at_call 12; (with_reducible refine (usage_At.calls k3 _ _ l3 a1 t146 t147 t148 t149 t150 _ ?side1 ?side2 A150.out).mono ?_); (case side1 => repeat (first | exact (Kd.C_below HR3.out HB.out) | (with_reducible refine Kd.C_alloc ?_ _) | (with_reducible refine Kd.C_drewN ?_ _) | (with_reducible refine Kd.C_drew ?_))); (case side2 => exact HC3.out); rintro e w159 ⟨rfl, hb⟩; have n0_ := Aside0.mk (Kd.R_below (by (with_reducible repeat (first | apply Kd.R_alloc | apply Kd.R_drewN | apply Kd.R_drew)); exact HO_9.out) hb); have n1_ := Aside0.mk (blk_below (g := gb143) (o := .cells #[.string x144000_3, .int .i64 x144001_3, .int .i64 x144002_3, .int .i64 x144003_3] 31 (0, 0)) (by (with_reducible repeat (first | refine blk_drewN ?_ _ | refine blk_drew ?_ | refine blk_alloc ?_ _)); exact BK143.out) hb); have n2_ := Aside0.mk (below_step (by repeat (first | (with_reducible first | exact HB.out | apply below_alloc | apply pw_below_drewN | apply below_drew1 | refine below_set ?_ GE143.out) | exact HB.out)) hb); clear HO_9; clear BK143; clear HB; have HO_9 := n0_; have BK143 := n1_; have HB := n2_; clear n0_ n1_ n2_; (try clear hb); (try clear hb2); (try clear hk); (try clear hi)) | ((with_reducible refine gate_dst (N := 20) rfl ?_); (try (refine gate_guard (by rfl) ?_; dsimp only)); refine box_event ?hg (N := 20) ?hd (cs := #[.string (⟨#[]⟩ : ByteArray), .int .i64 0, .int .i64 0, .int .i64 0]) (t := 31) ?hr ?_; (case hd => rfl); (case hg => rfl); (case hr => first | (go_simp; done) | (go_simp; rfl)); intro gb151 hg w160 hbox hb; have n0_ := Aside0.mk (Kd.R_below (Kd.R_elderB (by (with_reducible repeat (first | apply Kd.R_alloc | apply Kd.R_drewN | apply Kd.R_drew)); exact HO_9.out) gb151 (Nat.le_of_eq hg.symm)) hb); have n1_ := Aside0.mk (blk_below (g := gb143) (o := .cells #[.string x144000_3, .int .i64 x144001_3, .int .i64 x144002_3, .int .i64 x144003_3] 31 (0, 0)) (by (with_reducible repeat (first | refine blk_drewN ?_ _ | refine blk_drew ?_ | refine blk_alloc ?_ _)); exact BK143.out) hb); have n2_ := Aside0.mk (below_step (by repeat (first | (with_reducible first | exact HB.out | apply below_alloc | apply pw_below_drewN | apply below_drew1 | refine below_set ?_ GE143.out) | exact HB.out)) hb); have n3_ := Aside0.mk (hbox); have n4_ := Aside0.mk ((by rw [hg]; exact (below_size (by repeat (first | (with_reducible first | exact HB.out | apply below_alloc | apply pw_below_drewN | apply below_drew1 | refine below_set ?_ GE143.out) | exact HB.out))) : w.heap.size ≤ gb151)); have n5_ := Aside0.mk ((by rw [hg]; exact (below_size (by repeat (first | (with_reducible first | exact HB.out | apply below_alloc | apply pw_below_drewN | apply below_drew1 | refine below_set ?_ GE143.out) | exact HB.out))) : w.heap.size ≤ gb151)); have n6_ := Aside0.mk ((by rw [hg]; exact Nat.ne_of_lt (blk_lt (g := gb143) (o := .cells #[.string x144000_3, .int .i64 x144001_3, .int .i64 x144002_3, .int .i64 x144003_3] 31 (0, 0)) (by (with_reducible repeat (first | refine blk_drewN ?_ _ | refine blk_drew ?_ | refine blk_alloc ?_ _)); exact BK143.out)) : gb143 ≠ gb151)); have n7_ := Aside0.mk ((by rw [hg]; exact Nat.ne_of_gt (blk_lt (g := gb143) (o := .cells #[.string x144000_3, .int .i64 x144001_3, .int .i64 x144002_3, .int .i64 x144003_3] 31 (0, 0)) (by (with_reducible repeat (first | refine blk_drewN ?_ _ | refine blk_drew ?_ | refine blk_alloc ?_ _)); exact BK143.out)) : gb151 ≠ gb143)); clear HO_9; clear BK143; clear HB; have HO_9 := n0_; have BK143 := n1_; have HB := n2_; have BK151 := n3_; have GW151 := n4_; have GE151 := n5_; have NB143_151 := n6_; have NB151_143 := n7_; clear n0_ n1_ n2_ n3_ n4_ n5_ n6_ n7_; clear hb hbox hg; have hnb161 := NB151_143.out; have hnc161 := NB143_151.out; have hcz162_0 : w160.cell? ⟨gb151, 0, none⟩ = some (.string (⟨#[]⟩ : ByteArray)) := (blk_cell BK151.out 0).trans rfl; have hcz162_1 : w160.cell? ⟨gb151, 1, none⟩ = some (.int .i64 0) := (blk_cell BK151.out 1).trans rfl; have hcz162_2 : w160.cell? ⟨gb151, 2, none⟩ = some (.int .i64 0) := (blk_cell BK151.out 2).trans rfl; have hcz162_3 : w160.cell? ⟨gb151, 3, none⟩ = some (.int .i64 0) := (blk_cell BK151.out 3).trans rfl; have hfz162_0 := blk_frozen BK151.out 0; have hfz162_1 := blk_frozen BK151.out 1; have hfz162_2 := blk_frozen BK151.out 2; have hfz162_3 := blk_frozen BK151.out 3; obtain ⟨Ao163, co163, eo163⟩ := Kd.R_slice HO_9.out; subst eo163) | (go_at_call 13; (with_reducible refine (usage_Below.calls a1 a2 t152 _ A152.out).mono ?_); rintro e w' ⟨rfl, ⟨nd, rfl⟩⟩; (try first | exact ⟨rfl, _, World.drewN_drewN _ _ _⟩ | exact ⟨rfl, _, Eq.trans (World.drewN_drewN _ _ _) (congrArg (World.drewN _) (Nat.add_assoc _ _ _))⟩)) | (go_at_call 11; (with_reducible refine (sumplaw42_below.calls a1 a2 t153 _ A153.out).mono ?_); rintro e w' ⟨rfl, ⟨nd, rfl⟩⟩; (try first | exact ⟨rfl, _, World.drewN_drewN _ _ _⟩ | exact ⟨rfl, _, Eq.trans (World.drewN_drewN _ _ _) (congrArg (World.drewN _) (Nat.add_assoc _ _ _))⟩); have hcz164_0 : w160.cell? ⟨gb143, 0, none⟩ = some (.string x144000_3) := (blk_cell BK143.out 0).trans rfl; have hcz164_1 : w160.cell? ⟨gb143, 1, none⟩ = some (.int .i64 x144001_3) := (blk_cell BK143.out 1).trans rfl; have hcz164_2 : w160.cell? ⟨gb143, 2, none⟩ = some (.int .i64 x144002_3) := (blk_cell BK143.out 2).trans rfl; have hcz164_3 : w160.cell? ⟨gb143, 3, none⟩ = some (.int .i64 x144003_3) := (blk_cell BK143.out 3).trans rfl; have hfz164_0 := blk_frozen BK143.out 0; have hfz164_1 := blk_frozen BK143.out 1; have hfz164_2 := blk_frozen BK143.out 2; have hfz164_3 := blk_frozen BK143.out 3)); try go_wp2_with (first | (go_at_call 12; (with_reducible refine (usage_At.calls k3 _ _ l3 a1 t146 t147 t148 t149 t150 _ ?side1 ?side2 A150.out).mono ?_); (case side1 => repeat (first | exact (Kd.C_below HR3.out HB.out) | (with_reducible refine Kd.C_alloc ?_ _) | (with_reducible refine Kd.C_drewN ?_ _) | (with_reducible refine Kd.C_drew ?_))); (case side2 => exact HC3.out); rintro e w159 ⟨rfl, hb⟩; have n0_ := Aside0.mk (Kd.R_below (by (with_reducible repeat (first | apply Kd.R_alloc | apply Kd.R_drewN | apply Kd.R_drew)); exact HO_9.out) hb); have n1_ := Aside0.mk (blk_below (g := gb143) (o := .cells #[.string x144000_3, .int .i64 x144001_3, .int .i64 x144002_3, .int .i64 x144003_3] 31 (0, 0)) (by (with_reducible repeat (first | refine blk_drewN ?_ _ | refine blk_drew ?_ | refine blk_alloc ?_ _)); exact BK143.out) hb); have n2_ := Aside0.mk (below_step (by repeat (first | (with_reducible first | exact HB.out | apply below_alloc | apply pw_below_drewN | apply below_drew1 | refine below_set ?_ GE143.out) | exact HB.out)) hb); clear HO_9; clear BK143; clear HB; have HO_9 := n0_; have BK143 := n1_; have HB := n2_; clear n0_ n1_ n2_; (try clear hb); (try clear hb2); (try clear hk); (try clear hi)) | ((with_reducible refine gate_dst (N := 20) rfl ?_); (try (refine gate_guard (by rfl) ?_; dsimp only)); refine box_event ?hg (N := 20) ?hd (cs := #[.string (⟨#[]⟩ : ByteArray), .int .i64 0, .int .i64 0, .int .i64 0]) (t := 31) ?hr ?_; (case hd => rfl); (case hg => rfl); (case hr => first | (go_simp; done) | (go_simp; rfl)); intro gb151 hg w160 hbox hb; have n0_ := Aside0.mk (Kd.R_below (Kd.R_elderB (by (with_reducible repeat (first | apply Kd.R_alloc | apply Kd.R_drewN | apply Kd.R_drew)); exact HO_9.out) gb151 (Nat.le_of_eq hg.symm)) hb); have n1_ := Aside0.mk (blk_below (g := gb143) (o := .cells #[.string x144000_3, .int .i64 x144001_3, .int .i64 x144002_3, .int .i64 x144003_3] 31 (0, 0)) (by (with_reducible repeat (first | refine blk_drewN ?_ _ | refine blk_drew ?_ | refine blk_alloc ?_ _)); exact BK143.out) hb); have n2_ := Aside0.mk (below_step (by repeat (first | (with_reducible first | exact HB.out | apply below_alloc | apply pw_below_drewN | apply below_drew1 | refine below_set ?_ GE143.out) | exact HB.out)) hb); have n3_ := Aside0.mk (hbox); have n4_ := Aside0.mk ((by rw [hg]; exact (below_size (by repeat (first | (with_reducible first | exact HB.out | apply below_alloc | apply pw_below_drewN | apply below_drew1 | refine below_set ?_ GE143.out) | exact HB.out))) : w.heap.size ≤ gb151)); have n5_ := Aside0.mk ((by rw [hg]; exact (below_size (by repeat (first | (with_reducible first | exact HB.out | apply below_alloc | apply pw_below_drewN | apply below_drew1 | refine below_set ?_ GE143.out) | exact HB.out))) : w.heap.size ≤ gb151)); have n6_ := Aside0.mk ((by rw [hg]; exact Nat.ne_of_lt (blk_lt (g := gb143) (o := .cells #[.string x144000_3, .int .i64 x144001_3, .int .i64 x144002_3, .int .i64 x144003_3] 31 (0, 0)) (by (with_reducible repeat (first | refine blk_drewN ?_ _ | refine blk_drew ?_ | refine blk_alloc ?_ _)); exact BK143.out)) : gb143 ≠ gb151)); have n7_ := Aside0.mk ((by rw [hg]; exact Nat.ne_of_gt (blk_lt (g := gb143) (o := .cells #[.string x144000_3, .int .i64 x144001_3, .int .i64 x144002_3, .int .i64 x144003_3] 31 (0, 0)) (by (with_reducible repeat (first | refine blk_drewN ?_ _ | refine blk_drew ?_ | refine blk_alloc ?_ _)); exact BK143.out)) : gb151 ≠ gb143)); clear HO_9; clear BK143; clear HB; have HO_9 := n0_; have BK143 := n1_; have HB := n2_; have BK151 := n3_; have GW151 := n4_; have GE151 := n5_; have NB143_151 := n6_; have NB151_143 := n7_; clear n0_ n1_ n2_ n3_ n4_ n5_ n6_ n7_; clear hb hbox hg; have hnb161 := NB151_143.out; have hnc161 := NB143_151.out; have hcz162_0 : w160.cell? ⟨gb151, 0, none⟩ = some (.string (⟨#[]⟩ : ByteArray)) := (blk_cell BK151.out 0).trans rfl; have hcz162_1 : w160.cell? ⟨gb151, 1, none⟩ = some (.int .i64 0) := (blk_cell BK151.out 1).trans rfl; have hcz162_2 : w160.cell? ⟨gb151, 2, none⟩ = some (.int .i64 0) := (blk_cell BK151.out 2).trans rfl; have hcz162_3 : w160.cell? ⟨gb151, 3, none⟩ = some (.int .i64 0) := (blk_cell BK151.out 3).trans rfl; have hfz162_0 := blk_frozen BK151.out 0; have hfz162_1 := blk_frozen BK151.out 1; have hfz162_2 := blk_frozen BK151.out 2; have hfz162_3 := blk_frozen BK151.out 3; obtain ⟨Ao163, co163, eo163⟩ := Kd.R_slice HO_9.out; subst eo163) | (go_at_call 13; (with_reducible refine (usage_Below.calls a1 a2 t152 _ A152.out).mono ?_); rintro e w' ⟨rfl, ⟨nd, rfl⟩⟩; (try first | exact ⟨rfl, _, World.drewN_drewN _ _ _⟩ | exact ⟨rfl, _, Eq.trans (World.drewN_drewN _ _ _) (congrArg (World.drewN _) (Nat.add_assoc _ _ _))⟩)) | (go_at_call 11; (with_reducible refine (sumplaw42_below.calls a1 a2 t153 _ A153.out).mono ?_); rintro e w' ⟨rfl, ⟨nd, rfl⟩⟩; (try first | exact ⟨rfl, _, World.drewN_drewN _ _ _⟩ | exact ⟨rfl, _, Eq.trans (World.drewN_drewN _ _ _) (congrArg (World.drewN _) (Nat.add_assoc _ _ _))⟩); have hcz164_0 : w160.cell? ⟨gb143, 0, none⟩ = some (.string x144000_3) := (blk_cell BK143.out 0).trans rfl; have hcz164_1 : w160.cell? ⟨gb143, 1, none⟩ = some (.int .i64 x144001_3) := (blk_cell BK143.out 1).trans rfl; have hcz164_2 : w160.cell? ⟨gb143, 2, none⟩ = some (.int .i64 x144002_3) := (blk_cell BK143.out 2).trans rfl; have hcz164_3 : w160.cell? ⟨gb143, 3, none⟩ = some (.int .i64 x144003_3) := (blk_cell BK143.out 3).trans rfl; have hfz164_0 := blk_frozen BK143.out 0; have hfz164_1 := blk_frozen BK143.out 1; have hfz164_2 := blk_frozen BK143.out 2; have hfz164_3 := blk_frozen BK143.out 3)))
                 go_ret
                 exact ⟨by first | rfl | (simp [errW_none, errW_some] <;> rfl) | (simp [*, errW_none, errW_some] <;> rfl) | (refine L.ret_bool ?_; rw [Bool.eq_iff_iff]; simp; done) | (refine L.ret_bool ?_; rw [Bool.eq_iff_iff]; simp [*]; done), by repeat (first | (with_reducible first | exact HB.out | apply below_alloc | apply pw_below_drewN | apply below_drew1 | refine below_set ?_ GE143.out | refine below_set ?_ GE151.out) | exact HB.out)⟩
                ·rw [if_neg c158] at H
                 have c158b0 : (t149 == x144003_3) = false := beq_eq_false_iff_ne.mpr c158
                 have c158b1 : (t149 != x144003_3) = true := bne_iff_ne.mpr c158
                 exact absurd ((Option.some.inj H).trans HT.out) (by simp)
               ·rw [if_neg c157] at H
                have c157b0 : (t148 == x144002_3) = false := beq_eq_false_iff_ne.mpr c157
                have c157b1 : (t148 != x144002_3) = true := bne_iff_ne.mpr c157
                exact absurd ((Option.some.inj H).trans HT.out) (by simp)
              ·rw [if_neg c156] at H
               have c156b0 : (t147 == x144001_3) = false := beq_eq_false_iff_ne.mpr c156
               have c156b1 : (t147 != x144001_3) = true := bne_iff_ne.mpr c156
               exact absurd ((Option.some.inj H).trans HT.out) (by simp)
             ·rw [if_neg c155] at H
              have c155b0 : (t146.toList == x144000_3.toList) = false := beq_eq_false_iff_ne.mpr c155
              have c155b1 : (t146.toList != x144000_3.toList) = true := bne_iff_ne.mpr c155
              exact absurd ((Option.some.inj H).trans HT.out) (by simp)
            ·rw [if_neg c154] at H
             have c154b0 : (t152 == t153) = false := by simpa using c154
             (try (have c154b1 : decide (t152 = t153) = false := by simpa using c154))
             (try (have c154b2 : (t152 == t153) = false := by simpa using c154))
             (try (have c154b3 : ¬ (t152 = t153) := by simpa using c154))
             clear c154
             exact absurd ((Option.some.inj H).trans HT.out) (by simp)
           ·rw [if_neg c151] at H
            have c151b0 : (x10_2 == (t130.length : Int)) = false := beq_eq_false_iff_ne.mpr c151
            have c151b1 : (x10_2 != (t130.length : Int)) = true := bne_iff_ne.mpr c151
            exact absurd ((Option.some.inj H).trans HT.out) (by simp)
 ·replace c6 := Bool.eq_false_iff.mpr c6
  subst c6
  have H1 : (some false) = some r := by rw [if_neg (show ¬ (false = true) by decide)] at H; exact H
  clear H
  have H := H1
  clear H1
  exact absurd ((Option.some.inj H).trans HT.out) (by simp)

end Go.Proofs.Ytbdehbaiihlacaa.PUsageDoes
