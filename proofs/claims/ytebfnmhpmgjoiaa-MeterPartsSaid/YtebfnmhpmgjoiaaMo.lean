/- the meter: MeterParts' walk as the row wants it. -/
import Derived.Test.YtebfnmhpmgjoiaaMk
import Derived.Test.YtebfnmhpmgjoiaaMl
import Derived.Test.YtebfnmhpmgjoiaaMm
import Derived.Test.YtebfnmhpmgjoiaaMn
import Derived.Test.YtebfnmhpmgjoiaaFK
namespace Go.Proofs.Ytebfnmhpmgjoiaa.Fl
open Go.RowKit Go.Proofs.YtebfnmhpmgjoiaaW.PrintWords
set_option linter.unusedVariables false
theorem vw_of2 {w : World} {A : Option Addr} {l : List Nat} (h : Kd.C (FK.kf .f64) w A l.length l) : Vw w A l := by
  refine ⟨fun ad hA => FK.C_at h ad hA, fun hA => ?_⟩
  cases l with
  | nil => rfl
  | cons x t =>
    obtain ⟨ad, e, _⟩ := h.2.2 (by simp)
    rw [hA] at e
    cases e
theorem walkMeterParts (A0 : Option Addr) (c0 : Nat) (l0 : (List Nat)) (a1 : Int) (a2 : Int) (w : World) (hl0 : l0.length ≤ c0) (hr0 : Kd.C (FK.kf .f64) w A0 l0.length l0) (g0 : (l0.length ≤ maxLen ∧ ∀ y1 ∈ l0, (Lit.float .f64 y1).wf = true)) (y0 : l0.length * 8 ≤ 140737488351232) (w1 : (Lit.int .i64 a1).wf = true) (w2 : (Lit.int .i64 a2).wf = true) :
    Calls Try.prog 9 #[.slice A0 l0.length c0, .int .i64 a1, .int .i64 a2] w fun e w' => e = .returned (.bool true) ∧ Below w.heap.size w w' := by
  by_cases h1 : l0.length ≤ 40
  · rcases Nat.eq_zero_or_pos l0.length with h0 | h0
    · rw [h0]; exact parts_nil A0 c0 a1 a2 w
    · rcases Nat.mod_two_eq_zero_or_one l0.length with h | h
      · cases hm : mayq l0.length a1 a2 with
        | true => exact parts_even_may A0 l0 c0 a1 a2 w (vw_of2 hr0) h1 h0 h hm
        | false => exact parts_even_not A0 l0 c0 a1 a2 w (vw_of2 hr0) h1 h0 h hm
      · cases hm : mayq l0.length a1 a2 with
        | true => exact parts_odd_may A0 l0 c0 a1 a2 w (vw_of2 hr0) h1 h0 h hm
        | false => exact parts_odd_not A0 l0 c0 a1 a2 w (vw_of2 hr0) h1 h0 h hm
  · exact parts_no A0 _ c0 a1 a2 w h1
end Go.Proofs.Ytebfnmhpmgjoiaa.Fl
