/- DirsFinds: the walk: out of the printed contract and the pure part. -/
import Derived.Test.YteoklaofbdfjlaaPDirsx3
import Derived.Test.YteoklaofbdfjlaaDf2
namespace Go.Proofs.Yteoklaofbdfjlaa.PDirs
open Go.RowKit Go.Proofs.YteoklaofbdfjlaaW.PrintWords
set_option linter.unusedVariables false
theorem walkDirsFinds (A0 : Option Addr) (c0 : Nat) (l0 : (List S49)) (a1 : ByteArray) (w : World) (hl0 : l0.length ≤ c0) (hr0 : Kd.C k49 w A0 l0.length l0) (g0 : (l0.length ≤ maxLen ∧ ∀ y1 ∈ l0, G49 y1)) (y0 : l0.length * 24 ≤ 140737488351232) (w1 : a1.size ≤ 140737488351232) :
    Calls Try.prog 7 #[.slice A0 l0.length c0, .string a1] w fun e w' => e = .returned (.bool true) ∧ Below w.heap.size w w' := by
  obtain ⟨k, hk⟩ := law l0 a1 g0 y0 w1
  exact sumplaw15_DirsFinds.calls k A0 c0 l0 a1 true w hr0 hl0 hk rfl
end Go.Proofs.Yteoklaofbdfjlaa.PDirs
