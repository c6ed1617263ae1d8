/- InodeDoes: the walk: out of the printed contract and the pure part. -/
import Derived.Test.YtbdehbaiihlacaaPInodeDoesx9
import Derived.Test.YtbdehbaiihlacaaPureInodeDoes
namespace Go.Proofs.Ytbdehbaiihlacaa.PInodeDoes
open Go.RowKit Go.Proofs.YtbdehbaiihlacaaW.PrintWords
set_option linter.unusedVariables false
theorem walkInodeDoes (x0 : S39) (cs0 : List Value) (x1 : S39) (cs1 : List Value) (a2 : Int) (a3 : Int) (a4 : Int) (a5 : Int) (w : World) (K0 : k39.K w x0 cs0) (g0 : G39 x0) (K1 : k39.K w x1 cs1) (g1 : G39 x1) (w2 : (Lit.int .i64 a2).wf = true) (w3 : (Lit.int .i64 a3).wf = true) (w4 : (Lit.int .i64 a4).wf = true) (w5 : (Lit.int .i64 a5).wf = true) :
    Calls Try.prog 6 #[.agg cs0.toArray, .agg cs1.toArray, .int .i64 a2, .int .i64 a3, .int .i64 a4, .int .i64 a5] w fun e w' => e = .returned (.bool true) ∧ Below w.heap.size w w' := by
  obtain ⟨A0_5, c0_5, A0_6, c0_6, rfl, e0_5, h0_5, e0_6, h0_6⟩ := k39_open K0
  obtain ⟨A1_5, c1_5, A1_6, c1_6, rfl, e1_5, h1_5, e1_6, h1_6⟩ := k39_open K1
  obtain ⟨k, hk⟩ := law x0 x1 a2 a3 a4 a5 g0 g1 w2 w3 w4 w5
  exact sumplaw14_InodeDoes.calls k x0.f0 x0.f1 x0.f2 x0.f3 x0.f4 A0_5 c0_5 x0.f5 A0_6 c0_6 x0.f6 x1.f0 x1.f1 x1.f2 x1.f3 x1.f4 A1_5 c1_5 x1.f5 A1_6 c1_6 x1.f6 a2 a3 a4 a5 true w h0_5 e0_5 h0_6 e0_6 h1_5 e1_5 h1_6 e1_6 hk rfl
end Go.Proofs.Ytbdehbaiihlacaa.PInodeDoes
