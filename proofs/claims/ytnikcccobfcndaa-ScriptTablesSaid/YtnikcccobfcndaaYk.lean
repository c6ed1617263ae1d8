/- scripts: ScriptTables, the walk as the row wants it. -/
import Derived.Test.YtnikcccobfcndaaYe
import Derived.Test.YtnikcccobfcndaaYj
namespace Go.Proofs.Ytnikcccobfcndaa.Sc
open Go.RowKit Go.Proofs.YtnikcccobfcndaaW.PrintWords Go.Proofs.YtnikcccobfcndaaW.PrintLast Go.Proofs.YtnikcccobfcndaaW.PrintMore
set_option linter.unusedVariables false
instance : Inhabited S42 := ⟨z42⟩
instance : Inhabited S46 := ⟨z46⟩
def G30 (x : S30) : Prop := (Lit.float .f64 x.f0).wf = true ∧ (Lit.float .f64 x.f1).wf = true ∧ (Lit.float .f64 x.f2).wf = true
def G32 (x : S32) : Prop := (Lit.int .i64 x.f0).wf = true ∧ (Lit.int .i64 x.f1).wf = true ∧ (Lit.int .i64 x.f2).wf = true ∧ G30 x.f3
def G42 (x : S42) : Prop := (Lit.int .i64 x.f0).wf = true ∧ (Lit.int .i64 x.f1).wf = true ∧ (Lit.int .i64 x.f2).wf = true ∧ (Lit.int .i64 x.f3).wf = true ∧ (Lit.int .i64 x.f4).wf = true ∧ x.f5.size ≤ maxLen ∧ x.f6.size ≤ maxLen ∧ (x.f7.length ≤ maxLen ∧ ∀ y1 ∈ x.f7, (Lit.int .u8 y1).wf = true)
def G46 (x : S46) : Prop := (Lit.int .i64 x.f0).wf = true ∧ (Lit.int .i64 x.f1).wf = true ∧ (x.f2.length ≤ maxLen ∧ ∀ y2 ∈ x.f2, True)
def G36 (x : S36) : Prop := G32 x.f0 ∧ (x.f1.length ≤ maxLen ∧ ∀ y4 ∈ x.f1, (y4.length ≤ maxLen ∧ ∀ y5 ∈ y4, G42 y5)) ∧ (x.f2.length ≤ maxLen ∧ ∀ y3 ∈ x.f2, G46 y3)
theorem walkScriptTables (x0 : S32) (cs0 : List Value) (x1 : S36) (cs1 : List Value) (x2 : S36) (cs2 : List Value) (w : World) (K0 : k32.K w x0 cs0) (g0 : G32 x0) (K1 : k36.K w x1 cs1) (g1 : G36 x1) (K2 : k36.K w x2 cs2) (g2 : G36 x2) :
    Calls Try.prog 6 #[.agg cs0.toArray, .agg cs1.toArray, .agg cs2.toArray] w fun e w' => e = .returned (.bool true) ∧ Below w.heap.size w w' := by
  have o1 : Ok36 x1 := ⟨g1.2.1.1, fun r hr => (g1.2.1.2 r hr).1, g1.2.2.1, fun m hm => (g1.2.2.2 m hm).2.2.1⟩
  have o2 : Ok36 x2 := ⟨g2.2.1.1, fun r hr => (g2.2.1.2 r hr).1, g2.2.2.1, fun m hm => (g2.2.2.2 m hm).2.2.1⟩
  have hAA : ∀ W, Below w.heap.size w W → Calls Try.prog 19 #[.agg cs1.toArray, .agg cs1.toArray] W fun e w' => e = .returned (.bool true) ∧ Below W.heap.size W w' := fun W hb => by
    rw [← c36_refl x1]; exact same36_calls x1 x1 cs1 cs1 W (k36.K_below hb K1) (k36.K_below hb K1) o1
  have hAB : ∀ W, Below w.heap.size w W → Calls Try.prog 19 #[.agg cs1.toArray, .agg cs2.toArray] W fun e w' => e = .returned (.bool (c36 x1 x2)) ∧ Below W.heap.size W w' := fun W hb => same36_calls x1 x2 cs1 cs2 W (k36.K_below hb K1) (k36.K_below hb K2) o1
  have hBA : ∀ W, Below w.heap.size w W → Calls Try.prog 19 #[.agg cs2.toArray, .agg cs1.toArray] W fun e w' => e = .returned (.bool (c36 x1 x2)) ∧ Below W.heap.size W w' := fun W hb => by
    rw [c36_symm]; exact same36_calls x2 x1 cs2 cs1 W (k36.K_below hb K2) (k36.K_below hb K1) o2
  obtain rfl := k32_open K0
  obtain ⟨A1, a1, A2, a2, rfl, _⟩ := k36_open K1
  obtain ⟨B1, d1, B2, d2, rfl, _⟩ := k36_open K2
  by_cases h : x1.f2.length ≤ 300 ∧ x2.f2.length ≤ 300 ∧ x1.f1.length ≤ 10 ∧ x2.f1.length ≤ 10
  · exact tables_main _ _ _ _ _ _ _ _ _ _ _ _ A1 A2 _ a1 _ a2 _ _ _ _ _ _ B1 B2 _ d1 _ d2 w h.1 h.2.1 h.2.2.1 h.2.2.2 (c36 x1 x2) hAA hAB hBA (fun e => ⟨(c36_says e).1, (c36_says e).2.2, (c36_says e).2.1⟩)
  · exact tables_no _ _ _ _ _ _ _ _ _ _ _ _ A1 A2 _ a1 _ a2 _ _ _ _ _ _ B1 B2 _ d1 _ d2 w h
end Go.Proofs.Ytnikcccobfcndaa.Sc
