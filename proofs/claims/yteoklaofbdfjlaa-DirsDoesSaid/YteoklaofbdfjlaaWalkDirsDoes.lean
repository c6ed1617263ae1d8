/- DirsDoes: the walk: out of the printed contract and the pure part. -/
import Derived.Test.YteoklaofbdfjlaaPDirsx6
import Derived.Test.YteoklaofbdfjlaaDw
namespace Go.Proofs.Yteoklaofbdfjlaa.PDirs
open Go.RowKit Go.Proofs.YteoklaofbdfjlaaW.PrintWords
set_option linter.unusedVariables false
theorem walkDirsDoes (A0 : Option Addr) (c0 : Nat) (l0 : (List S49)) (a1 : ByteArray) (a2 : Int) (w : World) (hl0 : l0.length ≤ c0) (hr0 : Kd.C k49 w A0 l0.length l0) (g0 : (l0.length ≤ maxLen ∧ ∀ y1 ∈ l0, G49 y1)) (y0 : l0.length * 24 ≤ 140737488351232) (w1 : a1.size ≤ 140737488351232) (w2 : (Lit.int .i64 a2).wf = true) :
    Calls Try.prog 8 #[.slice A0 l0.length c0, .string a1, .int .i64 a2] w fun e w' => e = .returned (.bool true) ∧ Below w.heap.size w w' := by
  obtain ⟨k, hk⟩ := law_does l0 a1 a2 g0 y0 w1 w2
  exact sumplaw15_DirsDoes.calls k A0 c0 l0 a1 a2 true w hr0 hl0 hk rfl
end Go.Proofs.Yteoklaofbdfjlaa.PDirs
