/- palloc: the chapter's example; PallocAll's walk. -/
import Derived.Test.YtlojhiacaleokaaDoorPx
namespace Go.Proofs.YtlojhiacaleokaaDoor.Pa
open Go.RowKit Go.Proofs.YtlojhiacaleokaaDoorW.PrintWords Go.Proofs.YtlojhiacaleokaaDoorW.PrintLast Go.Proofs.YtlojhiacaleokaaDoorW.PrintMore
set_option linter.unusedVariables false
set_option linter.unusedSimpArgs false
theorem PS.used' {w : World} {b g n : Nat} {L : List Nat} (h : PS w b g n L) (hT : Tz.Tb w) :
    Calls Tryd.prog 18 #[.pointer (some ⟨b, 0, none⟩)] w fun e w' => ∃ A c, e = .returned (.slice A L.length c) ∧ L.length ≤ c ∧ Kd.C (Kd.int .i64) w' A L.length (vals L) ∧ Below w.heap.size w w' := by
  refine (h.used hT).mono ?_
  rintro e w' ⟨v, rfl, hR, hB⟩
  obtain ⟨A, c, rfl, h1, h2⟩ := Kd.R_reads hR
  rw [vals_len] at h1 h2 ⊢
  exact ⟨A, c, rfl, h1, h2, hB⟩
theorem sum_is (a n : Nat) (h : a ≤ n) (hn : n ≤ 1048576) : wrap64 ((a : Int) + ((n : Int) - (a : Int))) = (n : Int) := by
  rw [show (a : Int) + ((n : Int) - (a : Int)) = (n : Int) by omega]
  exact wrap_small _ (by omega) (by omega)
theorem hasL_give (L : List Nat) (i : Int) : hasL (giveL L i) i = false := by
  unfold hasL giveL
  rw [decide_eq_false_iff_not]
  exact delL_not L _
theorem give_give (L : List Nat) (i : Int) : giveL (giveL L i) i = giveL L i := delL_none _ _ (delL_not L _)
theorem ex1 : TakeIs 3 [2] (.tuple #[.int .i64 1, .bool true]) [1, 2] := Or.inr ⟨by decide, 1, ⟨by decide, by decide, fun j h1 h2 => by omega⟩, by decide, rfl, by decide⟩
theorem ex2 : TakeIs 3 [1, 2] (.tuple #[.int .i64 3, .bool true]) [1, 2, 3] := Or.inr ⟨by decide, 3, ⟨by decide, by decide, fun j h1 h2 => by
  have : j = 1 ∨ j = 2 := by omega
  rcases this with rfl | rfl <;> decide⟩, by decide, rfl, by decide⟩
theorem exL : newL (cl 3) [2] = [2] := by decide +kernel
theorem exN : cl 3 = 3 := by decide +kernel
theorem Fr.low {B b g : Nat} {w x y : World} (h : Fr b g x y) (hB : Below B w x) (h0 : B ≤ w.heap.size) (h1 : B ≤ b) (h2 : B ≤ g) : Below B w y := hB.trans (h.below (Nat.le_trans h0 hB.size) h1 h2)
set_option maxHeartbeats 2000000 in
theorem awake (w : World) (hT : Tz.Tb w) : Calls Tryd.prog 7 #[] w fun e w' => e = .returned (.bool true) ∧ Below w.heap.size w w' := by
  have HT := hid hT
  have hr : Kd.C (Kd.int .i64) (w.alloc (.cells #[.int .i64 2] 3)) (some ⟨w.heap.size, 0, none⟩) 1 [2] := by
    refine C_of_cells (l := [2]) (by decide) fun j x hj => ?_
    cases j with
    | zero =>
      have : 2 = x := by simpa using hj
      subst this
      exact cell_of_row _ _ 0 _ _ _ (blk_new w _)
    | succ j => simp at hj
  have hnew := new_ (some ⟨w.heap.size, 0, none⟩) 1 [2] (w.alloc (.cells #[.int .i64 2] 3)) hr (by decide) 3
  rw [exL, exN, show ([2] : List Int).length = 1 from rfl] at hnew
  simp only [World.size_alloc] at hnew
  have HB0 := hid (below_alloc (Below.refl w.heap.size w) (.cells #[.int .i64 2] 3))
  clear hT hr
  go_enter Tryd.func7, Tryd.ntmps7
  go_wp2_with (first
    | (go_at_call 8; (with_reducible refine hnew.mono ?_); rintro e w1 ⟨rfl, hP, hB⟩; have HP := hid hP; have HB := hid (HB0.out.trans (hB.mono (by omega))); clear hP hB)
    | (go_at_call 10; (with_reducible refine (HP.out.take (Tz.Tb_below HT.out HB.out)).mono ?_); rintro e w2 ⟨v, L', rfl, hTk, hP2, hF2⟩; obtain ⟨rfl, rfl⟩ := hTk.same ex1; have HP2 := hid hP2; have HB2 := hid (hF2.low HB.out (Nat.le_refl _) (by omega) (by omega)); clear hTk hP2 hF2)
    | (go_at_call 10; (with_reducible refine (HP2.out.take (Tz.Tb_below HT.out HB2.out)).mono ?_); rintro e w3 ⟨v, L', rfl, hTk, hP3, hF3⟩; obtain ⟨rfl, rfl⟩ := hTk.same ex2; have HB3 := hid (hF3.low HB2.out (Nat.le_refl _) (by omega) (by omega)); clear hTk hP3 hF3))
  go_ret
  exact ⟨rfl, HB3.out⟩
set_option maxHeartbeats 4000000 in
theorem walkPallocAll (a0 : Int) (A1 : Option Addr) (c1 : Nat) (l1 : (List Int)) (a2 : Int) (w : World) (w0 : (Lit.int .i64 a0).wf = true) (hl1 : l1.length ≤ c1) (hr1 : Kd.C (Kd.int .i64) w A1 l1.length l1) (g1 : (l1.length ≤ maxLen ∧ ∀ y1 ∈ l1, (Lit.int .i64 y1).wf = true)) (y1 : l1.length * 8 ≤ 140737488351232) (w2 : (Lit.int .i64 a2).wf = true) (hT : Tz.Tb w) :
    Calls Tryd.prog 5 #[.int .i64 a0, .slice A1 l1.length c1, .int .i64 a2] w fun e w' => e = .returned (.bool true) ∧ Below w.heap.size w w' := by
  have haw := awake w hT
  have HT := hid hT
  have HR := hid hr1
  clear w0 g1 y1 w2 hT hr1
  by_cases c1' : a0 < 0
  · have b1 : decide (a0 < 0) = true := decide_eq_true c1'
    go_enter Tryd.func5, Tryd.ntmps5
    go_wp2_with (first | (go_at_call 7; (with_reducible refine haw.mono ?_); rintro e w1 ⟨rfl, hB⟩; have HB := hid hB; clear hB))
    go_ret
    exact ⟨rfl, HB.out⟩
  · have b1 : decide (a0 < 0) = false := decide_eq_false c1'
    by_cases c2 : 300 < a0
    · have b2 : decide (300 < a0) = true := decide_eq_true c2
      go_enter Tryd.func5, Tryd.ntmps5
      go_wp2_with (first | (go_at_call 7; (with_reducible refine haw.mono ?_); rintro e w1 ⟨rfl, hB⟩; have HB := hid hB; clear hB))
      go_ret
      exact ⟨rfl, HB.out⟩
    · have b2 : decide (300 < a0) = false := decide_eq_false c2
      by_cases c3 : 60 < l1.length
      · have b3 : decide (60 < (l1.length : Int)) = true := decide_eq_true (by omega)
        go_enter Tryd.func5, Tryd.ntmps5
        go_wp2_with (first | (go_at_call 7; (with_reducible refine haw.mono ?_); rintro e w1 ⟨rfl, hB⟩; have HB := hid hB; clear hB))
        go_ret
        exact ⟨rfl, HB.out⟩
      · have b3 : decide (60 < (l1.length : Int)) = false := decide_eq_false (by omega)
        have hcl : (cl a0 : Int) = a0 := by unfold cl; omega
        obtain ⟨N, hN⟩ : ∃ N, cl a0 = N := ⟨_, rfl⟩
        rw [hN] at hcl
        have HLs := hid (show l1.length ≤ 1000 by omega)
        have HN := hid hN
        subst hcl
        clear c1' c2 c3 hN
        have hn20 : N ≤ 1048576 := by rw [← HN.out]; exact cl_le _
        have HN2 := hid hn20
        clear hn20
        go_enter Tryd.func5, Tryd.ntmps5
        go_wp2_with (first
          | (go_at_call 7; (with_reducible refine haw.mono ?_); rintro e w1 ⟨rfl, hB⟩; have HB := hid hB; clear hB)
          | (go_at_call 8; (with_reducible refine (new_ A1 c1 l1 w1 (Kd.C_below HR.out HB.out) HLs.out (N : Int)).mono ?_); rw [HN.out]; rintro e w2 ⟨rfl, hP, hB⟩; obtain ⟨L, hL⟩ : ∃ L, newL N l1 = L := ⟨_, rfl⟩; rw [hL] at hP; have HP := hid hP; have HB2 := hid (Go.Proofs.YtlojhiacaleokaaDoor.L.bel HB.out hB); have HT2 := hid (Tz.Tb_below HT.out HB2.out); have hs1 := sum_is L.length N hP.len HN2.out; have hg1 := hasL_give L a2; have hs2 := sum_is (giveL L a2).length N (Nat.le_trans (List.length_filter_le _ _) hP.len) HN2.out; clear hP hB hL)
          | (go_at_call 15; (with_reducible refine (HP.out.has a2).mono ?_); rintro e w9 ⟨rfl, hw9⟩; subst w9)
          | (go_at_call 18; (with_reducible refine (HP.out.used' HT2.out).mono ?_); rintro e w3 ⟨A3, c3, rfl, _, _, hB⟩; have HP3 := hid (HP.out.below hB); have HB3 := hid (Go.Proofs.YtlojhiacaleokaaDoor.L.bel HB2.out hB); clear hB)
          | (go_at_call 9; (with_reducible refine (HP3.out.free).mono ?_); rintro e w9 ⟨rfl, hw9⟩; subst w9)
          | (go_at_call 11; (with_reducible refine (HP3.out.give a2).mono ?_); rintro e w4 ⟨rfl, hP, hF⟩; have HP4 := hid hP; have HB4 := hid (hF.low HB3.out (Nat.le_refl _) (by have := HB.out.size; omega) HB.out.size); clear hP hF)
          | (go_at_call 15; (with_reducible refine (HP4.out.has a2).mono ?_); rintro e w9 ⟨rfl, hw9⟩; subst w9)
          | (go_at_call 11; (with_reducible refine (HP4.out.give a2).mono ?_); rintro e w5 ⟨rfl, hP, hF⟩; rw [give_give] at hP; have HP5 := hid hP; have HB5 := hid (hF.low HB4.out (Nat.le_refl _) (by have := HB.out.size; omega) HB.out.size); have HT5 := hid (Tz.Tb_below HT.out HB5.out); clear hP hF)
          | (go_at_call 18; (with_reducible refine (HP5.out.used' HT5.out).mono ?_); rintro e w6 ⟨A6, c6, rfl, _, _, hB⟩; have HP6 := hid (HP5.out.below hB); have HB6 := hid (Go.Proofs.YtlojhiacaleokaaDoor.L.bel HB5.out hB); clear hB)
          | (go_at_call 9; (with_reducible refine (HP6.out.free).mono ?_); rintro e w9 ⟨rfl, hw9⟩; subst w9))
        go_ret
        exact ⟨rfl, HB6.out⟩
end Go.Proofs.YtlojhiacaleokaaDoor.Pa
