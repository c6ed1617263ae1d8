/- palloc: use, where nothing is done. -/
import Derived.Test.YtlojhiacaleokaaDoorPc
namespace Go.Proofs.YtlojhiacaleokaaDoor.Pa
open Go.RowKit
set_option linter.unusedVariables false
set_option linter.unusedSimpArgs false
theorem use_skip {w : World} {b g : Nat} {n free : Int} {xs : List Nat} (h : Pg w b g n free xs) (i : Int) (hi : wi n i = false ∨ has n xs i = true) :
    Calls Tryd.prog 21 #[.pointer (some ⟨b, 0, none⟩), .int .i64 i] w fun e w' => e = .returned (.tuple #[]) ∧ w' = w := by
  have hw := within h i
  have hh := has_ h i
  clear h
  cases hc : wi n i with
  | false =>
    rw [hc] at hw
    clear hi hh
    go_enter Tryd.func21, Tryd.ntmps21
    go_wp2_with (first | (go_at_call 24; refine hw.mono ?_; rintro e w' ⟨rfl, rfl⟩))
    exact ⟨rfl, .tuple #[], by simp [results, Tryd.results21], rfl, rfl⟩
  | true =>
    have hy : has n xs i = true := by
      rcases hi with h | h
      · rw [hc] at h; cases h
      · exact h
    rw [hc] at hw
    rw [hy] at hh
    clear hi
    go_enter Tryd.func21, Tryd.ntmps21
    go_wp2_with (first | (go_at_call 24; refine hw.mono ?_; rintro e w' ⟨rfl, rfl⟩) | (go_at_call 15; refine hh.mono ?_; rintro e w' ⟨rfl, rfl⟩))
    exact ⟨rfl, .tuple #[], by simp [results, Tryd.results21], rfl, rfl⟩
end Go.Proofs.YtlojhiacaleokaaDoor.Pa
