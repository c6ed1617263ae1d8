/- InodePuts: the walk: out of the printed contract and the pure part. -/
import Derived.Test.YtbdehbaiihlacaaPInodePutsx6
import Derived.Test.YtbdehbaiihlacaaPureInodePuts
namespace Go.Proofs.Ytbdehbaiihlacaa.PInodePuts
open Go.RowKit Go.Proofs.YtbdehbaiihlacaaW.PrintWords
set_option linter.unusedVariables false
theorem walkInodePuts (x0 : S39) (cs0 : List Value) (a1 : Int) (a2 : Int) (a3 : Int) (w : World) (K0 : k39.K w x0 cs0) (g0 : G39 x0) (w1 : (Lit.int .i64 a1).wf = true) (w2 : (Lit.int .i64 a2).wf = true) (w3 : (Lit.int .i64 a3).wf = true) :
    Calls Try.prog 5 #[.agg cs0.toArray, .int .i64 a1, .int .i64 a2, .int .i64 a3] w fun e w' => e = .returned (.bool true) ∧ Below w.heap.size w w' := by
  obtain ⟨A0_5, c0_5, A0_6, c0_6, rfl, e0_5, h0_5, e0_6, h0_6⟩ := k39_open K0
  obtain ⟨k, hk⟩ := law x0 a1 a2 a3 g0 w1 w2 w3
  exact sumplaw14_InodePuts.calls k x0.f0 x0.f1 x0.f2 x0.f3 x0.f4 A0_5 c0_5 x0.f5 A0_6 c0_6 x0.f6 a1 a2 a3 true w h0_5 e0_5 h0_6 e0_6 hk rfl
end Go.Proofs.Ytbdehbaiihlacaa.PInodePuts
