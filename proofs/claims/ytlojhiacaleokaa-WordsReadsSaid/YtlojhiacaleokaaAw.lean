/- Words: awake. -/
import Derived.Test.YtlojhiacaleokaaUn2
import Derived.Test.YtlojhiacaleokaaL
namespace Go.Proofs.Ytlojhiacaleokaa.PWD
open Go.RowKit Go.Proofs.YtlojhiacaleokaaW.PrintWords Go.Proofs.YtlojhiacaleokaaW.PrintLast Go.Proofs.YtlojhiacaleokaaW.PrintMore
set_option linter.unusedVariables false
set_option linter.unusedSimpArgs false
theorem lit2_C (w1 : World) : Kd.C (Kd.int .u8) (w1.alloc (.cells #[.int .u8 1, .int .u8 2] 5)) (some ⟨w1.heap.size, 0, none⟩) 2 [1, 2] :=
  Kd.C_of_reads (d := (0 : Int)) (h1 := fun _ => rfl) ⟨rfl, by decide, fun _ => ⟨_, rfl, fun j hj => by
    have hj' : j < 2 := hj
    rw [show (Addr.add ⟨w1.heap.size, 0, none⟩ j : Addr) = ⟨w1.heap.size, j, none⟩ from add_plain _ _, blk_cell (blk_new w1 _) j]
    rcases j with _ | _ | j
    · rfl
    · rfl
    · omega⟩⟩
theorem lit1_C (w1 : World) : Kd.C (Kd.int .u64) (w1.alloc (.cells #[.int .u64 513] 44)) (some ⟨w1.heap.size, 0, none⟩) 1 [513] :=
  Kd.C_of_reads (d := (0 : Int)) (h1 := fun _ => rfl) ⟨rfl, by decide, fun _ => ⟨_, rfl, fun j hj => by
    have hj' : j < 1 := hj
    rw [show (Addr.add ⟨w1.heap.size, 0, none⟩ j : Addr) = ⟨w1.heap.size, j, none⟩ from add_plain _ _, blk_cell (blk_new w1 _) j]
    rcases j with _ | j
    · rfl
    · omega⟩⟩
theorem Wr_below {w w' : World} {base g : Nat} {xs : List Int} (h : Wr w base g xs) (hb : Below w.heap.size w w') : Wr w' base g xs := by
  obtain ⟨v, h1, h2, h3⟩ := h
  exact ⟨v, blk_below h1 hb, h2, Kd.R_below h3 hb⟩
theorem pack12 (w1 : World) : Calls Try.prog 10 #[.slice (some ⟨w1.heap.size, 0, none⟩) 2 2] (w1.alloc (.cells #[.int .u8 1, .int .u8 2] 5)) fun e w' => ∃ A c, e = .returned (.slice A 1 c) ∧ Kd.R (Kd.int .u64) 44 w' w1.heap.size (fun _ => True) (.slice A 1 c) [513] ∧ Below w1.heap.size w1 w' := by
  refine (words_Pack.calls 4 (some ⟨w1.heap.size, 0, none⟩) 2 [1, 2] [513] _ (lit2_C w1) (by decide) (by decide +kernel)).mono ?_
  rintro e w' ⟨v0, rfl, hr, hb⟩
  obtain ⟨A, c, ev⟩ := Kd.R_slice hr
  subst ev
  exact ⟨A, c, rfl, Kd.R_lower hr (by simp), (below_alloc (Below.refl _ w1) _).trans (hb.mono (by simp))⟩
theorem same1 (A : Option Addr) (c : Nat) (w1 : World) (h : Kd.R (Kd.int .u64) 44 w1 0 (fun _ => True) (.slice A 1 c) [513]) : Calls Try.prog 9 #[.slice A 1 c, .slice (some ⟨w1.heap.size, 0, none⟩) 1 1] (w1.alloc (.cells #[.int .u64 513] 44)) fun e w' => e = .returned (.bool true) ∧ Below w1.heap.size w1 w' := by
  refine (sumpref01_SameWords.calls 4 A c [513] (some ⟨w1.heap.size, 0, none⟩) 1 [513] true _ (Kd.R_reads' (Kd.R_alloc h _)).2.2 (Kd.R_reads' h).2.1 (lit1_C w1) (by decide) (by decide +kernel)).mono ?_
  rintro e w' ⟨rfl, ⟨nd, rfl⟩⟩
  exact ⟨rfl, pw_below_drewN (below_alloc (Below.refl _ w1) _) _⟩
set_option maxHeartbeats 4000000 in
theorem awake_calls (w : World) : Calls Try.prog 6 #[] w fun e w' => e = .returned (.bool true) ∧ Below w.heap.size w w' := by
  have hp1 : Aside0 (words_Pack.f 4 (bytesOf { data := #[97, 98] }) = some [25185]) := ⟨by decide +kernel⟩
  have hp2 : Aside0 (words_Pack.f 4 [1, 2] = some [513]) := ⟨by decide +kernel⟩
  have hp3 : Aside0 (sumpref01_SameWords.f 4 [513] [513] = some true) := ⟨by decide +kernel⟩
  have hw0 := Aside0.mk (text_calls w.heap.size w.heap.size 4 [] { data := #[97, 98] } [25185] (w.alloc (.cells #[.slice none 0 0] 35)) (by simp) (by decide) (by decide +kernel) hp1.out ⟨_, blk_new w _, Nat.le_refl _, Kd.R_nil _ _ _ _ _⟩)
  go_enter Try.func6, Try.ntmps6
  go_wp2_with (first | (go_at_call 14; (with_reducible refine hw0.out.mono ?_); rintro e w1 ⟨rfl, hW, hb⟩; have HW := Aside0.mk hW; have HB := Aside0.mk ((below_alloc (Below.refl _ w) _).trans hb); clear hW hb) | (go_at_call 10; (with_reducible refine (pack12 _).mono ?_); rintro e w2 ⟨A, c, rfl, hr, hb⟩; have HW2 := Aside0.mk (Wr_below HW.out hb); have HR2 := Aside0.mk (Kd.R_lower hr (Nat.zero_le _)); have HB2 := Aside0.mk (HB.out.trans (hb.mono HB.out.size)); clear hr hb) | (go_at_call 9; (with_reducible refine (same1 _ _ _ HR2.out).mono ?_); rintro e w3 ⟨rfl, hb⟩; have HW3 := Aside0.mk (Wr_below HW2.out hb); have HB3 := Aside0.mk (HB2.out.trans (hb.mono HB2.out.size)); clear hb) | (go_at_call 17; (with_reducible refine (words_calls _ _ _ _ (by decide) HW3.out).mono ?_); rintro e w4 ⟨v0, rfl, hr, hb⟩; obtain ⟨A5, c5, e5⟩ := Kd.R_slice hr; subst e5; have HB4 := Aside0.mk (HB3.out.trans (hb.mono HB3.out.size)); clear hr hb))
  go_ret
  exact ⟨rfl, HB4.out⟩
end Go.Proofs.Ytlojhiacaleokaa.PWD
