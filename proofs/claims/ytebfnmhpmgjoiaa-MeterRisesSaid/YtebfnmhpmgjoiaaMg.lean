/- the meter: MeterBoxes' walk as the row wants it. -/
import Derived.Test.YtebfnmhpmgjoiaaMf
import Derived.Test.YtebfnmhpmgjoiaaFK
namespace Go.Proofs.Ytebfnmhpmgjoiaa.Fl
open Go.RowKit Go.Proofs.YtebfnmhpmgjoiaaW.PrintWords
set_option linter.unusedVariables false
theorem vw_of {w : World} {A : Option Addr} {l : List Nat} (h : Kd.C (FK.kf .f64) w A l.length l) : Vw w A l := by
  refine ⟨fun ad hA => FK.C_at h ad hA, fun hA => ?_⟩
  cases l with
  | nil => rfl
  | cons x t =>
    obtain ⟨ad, e, _⟩ := h.2.2 (by simp)
    rw [hA] at e
    cases e
theorem walkMeterBoxes (A0 : Option Addr) (c0 : Nat) (l0 : (List Nat)) (A1 : Option Addr) (c1 : Nat) (l1 : (List Nat)) (a2 : Nat) (w : World) (hl0 : l0.length ≤ c0) (hr0 : Kd.C (FK.kf .f64) w A0 l0.length l0) (g0 : (l0.length ≤ maxLen ∧ ∀ y1 ∈ l0, (Lit.float .f64 y1).wf = true)) (y0 : l0.length * 8 ≤ 140737488351232) (hl1 : l1.length ≤ c1) (hr1 : Kd.C (FK.kf .f64) w A1 l1.length l1) (g1 : (l1.length ≤ maxLen ∧ ∀ y2 ∈ l1, (Lit.float .f64 y2).wf = true)) (y1 : l1.length * 8 ≤ 140737488351232) (w2 : (Lit.float .f64 a2).wf = true) :
    Calls Try.prog 8 #[.slice A0 l0.length c0, .slice A1 l1.length c1, .float .f64 a2] w fun e w' => e = .returned (.bool true) ∧ Below w.heap.size w w' := by
  by_cases h1 : l0.length ≤ 40
  · by_cases h2 : l1.length ≤ 40
    · exact mboxes_main A0 A1 l0 l1 c0 c1 a2 w (vw_of hr0) (vw_of hr1) h1 h2
    · exact mboxes_many2 A0 A1 _ c0 _ c1 a2 w (decide_eq_true (by omega)) (decide_eq_false (by omega))
  · exact mboxes_many1 A0 A1 _ c0 _ c1 a2 w (decide_eq_false (by omega))
end Go.Proofs.Ytebfnmhpmgjoiaa.Fl
