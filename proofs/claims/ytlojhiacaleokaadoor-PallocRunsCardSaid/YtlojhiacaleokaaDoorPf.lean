/- palloc: Has, Give, use at nil. -/
import Derived.Test.YtlojhiacaleokaaDoorPe
namespace Go.Proofs.YtlojhiacaleokaaDoor.Pa
open Go.RowKit
set_option linter.unusedVariables false
set_option linter.unusedSimpArgs false
theorem has_nil (w : World) (i : Int) : Calls Tryd.prog 15 #[.pointer none, .int .i64 i] w fun e w' => e = .returned (.bool false) ∧ w' = w := by
  have hw := within_nil w i
  go_enter Tryd.func15, Tryd.ntmps15
  go_wp2_with (first | (go_at_call 24; refine hw.mono ?_; rintro e w' ⟨rfl, rfl⟩))
  go_ret
  exact ⟨rfl, rfl⟩
theorem give_nil (w : World) (i : Int) : Calls Tryd.prog 11 #[.pointer none, .int .i64 i] w fun e w' => e = .returned (.bool false) ∧ w' = w := by
  have hh := has_nil w i
  go_enter Tryd.func11, Tryd.ntmps11
  go_wp2_with (first | (go_at_call 15; refine hh.mono ?_; rintro e w' ⟨rfl, rfl⟩))
  go_ret
  exact ⟨rfl, rfl⟩
/-- Bits of a word with a bit set. -/
theorem or_bit (x r s : Nat) : (x ||| 2 ^ r).testBit s = (x.testBit s || decide (r = s)) := by
  rw [Nat.testBit_or, Nat.testBit_two_pow]
end Go.Proofs.YtlojhiacaleokaaDoor.Pa
