/- EffectShapes: the walk: out of the printed contract and the pure part. -/
import Derived.Test.YteoklaofbdfjlaaPEffectShapesx7
import Derived.Test.YteoklaofbdfjlaaPureEffectShapes
namespace Go.Proofs.Yteoklaofbdfjlaa.PEffectShapes
open Go.RowKit Go.Proofs.YteoklaofbdfjlaaW.PrintWords
set_option linter.unusedVariables false
theorem walkEffectShapes (x0 : S24) (cs0 : List Value) (a1 : Int) (w : World) (K0 : k24.K w x0 cs0) (g0 : G24 x0) (w1 : (Lit.int .i64 a1).wf = true) :
    Calls Try.prog 5 #[.agg cs0.toArray, .int .i64 a1] w fun e w' => e = .returned (.bool true) ∧ Below w.heap.size w w' := by
  obtain ⟨A0_8, c0_8, rfl, e0_8, h0_8⟩ := k24_open K0
  obtain ⟨k, hk⟩ := law x0 a1 g0 w1
  exact sumplaw09_EffectShapes.calls k x0.f0 x0.f1 x0.f2 x0.f3 x0.f4 x0.f5 x0.f6 x0.f7 (fun k => k < w.heap.size) A0_8 c0_8 x0.f8 a1 true w (Kd.V_mk e0_8 (Kd.C_F (Kd.heap_int .u8) h0_8)) hk
end Go.Proofs.Yteoklaofbdfjlaa.PEffectShapes
