/- ClientWays: the walk: for any two ints the Go text returns true and leaves what was there as it was. -/
import Derived.Test.YtbbpjjbgdemmpaaCwa
namespace Go.Proofs.Ytbbpjjbgdemmpaa.ClientWaysW
open Go.RowKit YtbbpjjbgdemmpaaW.PrintWords PClientCalls
def cw (a : Int) : ByteArray := (client_Word.f a).getD ⟨#[]⟩
theorem cw_f (a : Int) : client_Word.f a = some (cw a) := by
  unfold cw client_Word.f
  repeat' split
  all_goals rfl
theorem word_any (a : Int) (w : World) : Calls Try.prog 14 #[.int .i64 a] w fun e w' => e = .returned (.string (cw a)) ∧ Below w.heap.size w w' := client_Word.calls a (cw a) w (cw_f a)
theorem mayc_any (a b : Int) (w : World) : Calls Try.prog 15 #[.int .i64 a, .int .i64 b] w fun e w' => e = .returned (.bool (mayR a b)) ∧ Below w.heap.size w w' := client_May.calls a b _ w (by unfold client_May.f; rw [mayR_eq])
theorem awake_any (w : World) : Calls Try.prog 13 #[] w fun e w' => e = .returned (.bool true) ∧ Below w.heap.size w w' := sumplaw30_awake.calls true w (by decide +kernel)
theorem cw_out {a : Int} (h : a < 0 ∨ 4 < a) : cw a = ⟨#[]⟩ := by
  unfold cw client_Word.f
  rw [if_neg (by omega), if_neg (by omega), if_neg (by omega), if_neg (by omega), if_neg (by omega)]; rfl
theorem cw_in {a : Int} (h0 : 0 ≤ a) (h1 : a ≤ 4) : ((cw a).toList == []) = false := by
  rcases (show a = 0 ∨ a = 1 ∨ a = 2 ∨ a = 3 ∨ a = 4 by omega) with rfl | rfl | rfl | rfl | rfl <;> decide +kernel
theorem cw_eq {a b : Int} (h0 : 0 ≤ a) (h1 : a ≤ 4) (k0 : 0 ≤ b) (k1 : b ≤ 4) : ((cw a).toList == (cw b).toList) = (a == b) := by
  rcases (show a = 0 ∨ a = 1 ∨ a = 2 ∨ a = 3 ∨ a = 4 by omega) with rfl | rfl | rfl | rfl | rfl <;> rcases (show b = 0 ∨ b = 1 ∨ b = 2 ∨ b = 3 ∨ b = 4 by omega) with rfl | rfl | rfl | rfl | rfl <;> decide +kernel
theorem word_out (a : Int) (h : a < 0 ∨ 4 < a) (w : World) : Calls Try.prog 14 #[.int .i64 a] w fun e w' => e = .returned (.string ⟨#[]⟩) ∧ Below w.heap.size w w' := cw_out h ▸ word_any a w

theorem bel {w w1 w2 : World} (h : Below w.heap.size w w1) (k : Below w1.heap.size w1 w2) : Below w.heap.size w w2 := below_then h h.size k

theorem ret_true {x : Bool} (h : x = true) : Ending.returned (.bool x) = .returned (.bool true) := by rw [h]
theorem empty_toList : (ByteArray.mk #[]).toList = [] := by decide +kernel

set_option maxHeartbeats 1000000 in
theorem law (a b : Int) (w : World) (_wa : (Lit.int .i64 a).wf = true) (_wb : (Lit.int .i64 b).wf = true) : Calls Try.prog 3 #[.int .i64 a, .int .i64 b] w fun e w' => e = .returned (.bool true) ∧ Below w.heap.size w w' := by
  have HB := Below.refl w.heap.size w
  by_cases ha : 0 ≤ a ∧ a ≤ 4
  · obtain ⟨h0, h1⟩ := ha
    have hi := cw_in h0 h1
    have HE : Aside0 (((cw a).toList == (cw b).toList) = (a == b)) := ⟨by
      by_cases hb : 0 ≤ b ∧ b ≤ 4
      · exact cw_eq h0 h1 hb.1 hb.2
      · rw [cw_out (a := b) (by omega), empty_toList, hi]
        symm; exact beq_eq_false_iff_ne.2 (by omega)⟩
    go_enter Try.func3, Try.ntmps3
    go_wp2_with (first | (go_at_call 13; refine (awake_any _).mono ?_; rintro e w1 ⟨rfl, hb⟩; replace HB := bel HB hb; clear hb) | (go_at_call 14; refine (word_any _ _).mono ?_; rintro e w1 ⟨rfl, hb⟩; replace HB := bel HB hb; clear hb) | (go_at_call 15; refine (mayc_any _ _ _).mono ?_; rintro e w1 ⟨rfl, hb⟩; replace HB := bel HB hb; clear hb) | (go_at_call 16; refine (may_any _ _ _).mono ?_; rintro e w1 ⟨rfl, hb⟩; replace HB := bel HB hb; clear hb))
    go_ret
    exact ⟨ret_true (by rw [HE.out]; simp; omega), HB⟩
  · have hi : ((cw a).toList == []) = true := by rw [cw_out (by omega), empty_toList]; rfl
    rcases (show a < 0 ∨ 4 < a by omega) with h | h
    all_goals
      clear ha
      go_enter Try.func3, Try.ntmps3
      go_wp2_with (first | (go_at_call 13; refine (awake_any _).mono ?_; rintro e w1 ⟨rfl, hb⟩; replace HB := bel HB hb; clear hb) | (go_at_call 14; refine (word_any _ _).mono ?_; rintro e w1 ⟨rfl, hb⟩; replace HB := bel HB hb; clear hb) | (go_at_call 15; refine (mayc_any _ _ _).mono ?_; rintro e w1 ⟨rfl, hb⟩; replace HB := bel HB hb; clear hb) | (go_at_call 16; refine (may_any _ _ _).mono ?_; rintro e w1 ⟨rfl, hb⟩; replace HB := bel HB hb; clear hb))
      go_ret
      exact ⟨rfl, HB⟩
end Go.Proofs.Ytbbpjjbgdemmpaa.ClientWaysW
