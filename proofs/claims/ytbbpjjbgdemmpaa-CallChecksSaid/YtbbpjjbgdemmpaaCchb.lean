/- CallChecks: the walk: for any two calls, a kind and a flag the Go text returns true and leaves what was there as it was. -/
import Derived.Test.YtbbpjjbgdemmpaaCcha
import Derived.Test.YtbbpjjbgdemmpaaPCallChecksx4A
import Derived.Test.YtbbpjjbgdemmpaaPCallChecksx4B
import Derived.Test.YtbbpjjbgdemmpaaPCallChecksx4C
namespace Go.Proofs.Ytbbpjjbgdemmpaa.CallChecksW
open Go.RowKit Go.Proofs.YtbbpjjbgdemmpaaW.PrintWords PCallChecks
set_option linter.unusedVariables false
def G40 (x : S40) : Prop := (Lit.int .i64 x.f0).wf = true ∧ (Lit.int .i64 x.f1).wf = true ∧ (Lit.int .i64 x.f2).wf = true ∧ (Lit.int .i64 x.f3).wf = true ∧ (Lit.int .i64 x.f4).wf = true ∧ x.f5.size ≤ maxLen ∧ x.f6.size ≤ maxLen ∧ (x.f7.length ≤ maxLen ∧ ∀ y1 ∈ x.f7, (Lit.int .u8 y1).wf = true)
theorem walk (x0 : S40) (cs0 : List Value) (x1 : S40) (cs1 : List Value) (a2 : Int) (a3 : Int) (w : World) (K0 : k40.K w x0 cs0) (g0 : G40 x0) (K1 : k40.K w x1 cs1) (g1 : G40 x1) (w2 : (Lit.int .i64 a2).wf = true) (w3 : (Lit.int .i64 a3).wf = true) :
    Calls Try.prog 12 #[.agg cs0.toArray, .agg cs1.toArray, .int .i64 a2, .int .i64 a3] w fun e w' => e = .returned (.bool true) ∧ Below w.heap.size w w' := by
  obtain ⟨A7, c7, rfl, hl, hr⟩ := k40_open K0
  obtain ⟨B7, d7, rfl, kl, kr⟩ := k40_open K1
  have hp := pure x0.f0 x0.f1 x0.f2 x0.f3 x0.f4 x0.f5 x0.f6 x0.f7 x1.f0 x1.f1 x1.f2 x1.f3 x1.f4 x1.f5 x1.f6 x1.f7 a2 a3
  by_cases h2 : x0.f0 ≥ 2
  · by_cases h4 : x0.f0 = 4
    · exact sumplaw25_CallChecks.callsA 16 x0.f0 x0.f1 x0.f2 x0.f3 x0.f4 x0.f5 x0.f6 A7 c7 x0.f7 x1.f0 x1.f1 x1.f2 x1.f3 x1.f4 x1.f5 x1.f6 B7 d7 x1.f7 a2 a3 true w hr hl kr kl hp rfl h4
    · exact sumplaw25_CallChecks.callsB 16 x0.f0 x0.f1 x0.f2 x0.f3 x0.f4 x0.f5 x0.f6 A7 c7 x0.f7 x1.f0 x1.f1 x1.f2 x1.f3 x1.f4 x1.f5 x1.f6 B7 d7 x1.f7 a2 a3 true w hr hl kr kl hp rfl ⟨h2, h4⟩
  · exact sumplaw25_CallChecks.callsC 16 x0.f0 x0.f1 x0.f2 x0.f3 x0.f4 x0.f5 x0.f6 A7 c7 x0.f7 x1.f0 x1.f1 x1.f2 x1.f3 x1.f4 x1.f5 x1.f6 B7 d7 x1.f7 a2 a3 true w hr hl kr kl hp rfl h2
end Go.Proofs.Ytbbpjjbgdemmpaa.CallChecksW
