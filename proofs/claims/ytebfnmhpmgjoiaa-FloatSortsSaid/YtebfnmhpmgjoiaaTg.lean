/- sorting floats: the law's walk as the row wants it. -/
import Derived.Test.YtebfnmhpmgjoiaaTf
import Derived.Test.YtebfnmhpmgjoiaaFK
namespace Go.Proofs.Ytebfnmhpmgjoiaa.Fl
open Go.RowKit Go.Proofs.YtebfnmhpmgjoiaaW.PrintWords
set_option linter.unusedVariables false
theorem walkFloatSorts (A0 : Option Addr) (c0 : Nat) (l0 : (List Nat)) (w : World) (hl0 : l0.length ≤ c0) (hr0 : Kd.C (FK.kf .f64) w A0 l0.length l0) (g0 : (l0.length ≤ maxLen ∧ ∀ y1 ∈ l0, (Lit.float .f64 y1).wf = true)) (y0 : l0.length * 8 ≤ 140737488351232) :
    Calls Try.prog 6 #[.slice A0 l0.length c0] w fun e w' => e = .returned (.bool true) ∧ Below w.heap.size w w' := by
  refine sorts_walk A0 l0 c0 w (fun ad hA => FK.C_at hr0 ad hA) (fun hA => ?_)
  cases l0 with
  | nil => rfl
  | cons x t =>
    obtain ⟨ad, e, _⟩ := hr0.2.2 (by simp)
    rw [hA] at e
    cases e
end Go.Proofs.Ytebfnmhpmgjoiaa.Fl
