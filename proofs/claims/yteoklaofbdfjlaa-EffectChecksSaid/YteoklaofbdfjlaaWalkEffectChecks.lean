/- EffectChecks: the walk: out of the printed contracts and the pure part. -/
import Derived.Test.YteoklaofbdfjlaaPEffectChecksx9A
import Derived.Test.YteoklaofbdfjlaaPEffectChecksx9B
import Derived.Test.YteoklaofbdfjlaaPureEffectChecks
namespace Go.Proofs.Yteoklaofbdfjlaa.PEffectChecks
open Go.RowKit Go.Proofs.YteoklaofbdfjlaaW.PrintWords
set_option linter.unusedVariables false
theorem walkEffectChecks (x0 : S24) (cs0 : List Value) (x1 : S24) (cs1 : List Value) (a2 : Int) (w : World) (K0 : k24.K w x0 cs0) (g0 : G24 x0) (K1 : k24.K w x1 cs1) (g1 : G24 x1) (w2 : (Lit.int .i64 a2).wf = true) :
    Calls Try.prog 3 #[.agg cs0.toArray, .agg cs1.toArray, .int .i64 a2] w fun e w' => e = .returned (.bool true) ∧ Below w.heap.size w w' := by
  obtain ⟨A0_8, c0_8, rfl, e0_8, h0_8⟩ := k24_open K0
  obtain ⟨A1_8, c1_8, rfl, e1_8, h1_8⟩ := k24_open K1
  obtain ⟨k, hk⟩ := law x0 x1 a2 g0 g1 w2
  by_cases c : a2 < 1
  · exact sumplaw09_EffectChecks.callsA k x0.f0 x0.f1 x0.f2 x0.f3 x0.f4 x0.f5 x0.f6 x0.f7 (fun k => k < w.heap.size) A0_8 c0_8 x0.f8 x1.f0 x1.f1 x1.f2 x1.f3 x1.f4 x1.f5 x1.f6 x1.f7 (fun k => k < w.heap.size) A1_8 c1_8 x1.f8 a2 true w (Kd.V_mk e0_8 (Kd.C_F (Kd.heap_int .u8) h0_8)) (Kd.V_mk e1_8 (Kd.C_F (Kd.heap_int .u8) h1_8)) hk rfl c
  · exact sumplaw09_EffectChecks.callsB k x0.f0 x0.f1 x0.f2 x0.f3 x0.f4 x0.f5 x0.f6 x0.f7 (fun k => k < w.heap.size) A0_8 c0_8 x0.f8 x1.f0 x1.f1 x1.f2 x1.f3 x1.f4 x1.f5 x1.f6 x1.f7 (fun k => k < w.heap.size) A1_8 c1_8 x1.f8 a2 true w (Kd.V_mk e0_8 (Kd.C_F (Kd.heap_int .u8) h0_8)) (Kd.V_mk e1_8 (Kd.C_F (Kd.heap_int .u8) h1_8)) hk rfl c
end Go.Proofs.Yteoklaofbdfjlaa.PEffectChecks
