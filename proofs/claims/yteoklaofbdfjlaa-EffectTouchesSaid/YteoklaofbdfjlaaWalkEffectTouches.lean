/- EffectTouches: the walk: out of the printed contract and the pure part. -/
import Derived.Test.YteoklaofbdfjlaaPEffectTouchesx7
import Derived.Test.YteoklaofbdfjlaaPureEffectTouches
namespace Go.Proofs.Yteoklaofbdfjlaa.PEffectTouches
open Go.RowKit Go.Proofs.YteoklaofbdfjlaaW.PrintWords
set_option linter.unusedVariables false
theorem walkEffectTouches (A0 : Option Addr) (c0 : Nat) (l0 : (List S24)) (a1 : Int) (w : World) (hl0 : l0.length ≤ c0) (hr0 : Kd.C k24 w A0 l0.length l0) (g0 : (l0.length ≤ maxLen ∧ ∀ y1 ∈ l0, G24 y1)) (y0 : l0.length * 104 ≤ 140737488351232) (w1 : (Lit.int .i64 a1).wf = true) :
    Calls Try.prog 4 #[.slice A0 l0.length c0, .int .i64 a1] w fun e w' => e = .returned (.bool true) ∧ Below w.heap.size w w' := by
  obtain ⟨k, hk⟩ := law l0 a1 g0 y0 w1
  exact sumplaw09_EffectTouches.calls k A0 c0 l0 a1 true w hr0 hl0 hk rfl
end Go.Proofs.Yteoklaofbdfjlaa.PEffectTouches
