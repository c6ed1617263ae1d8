/- Names: the walks, out of the printed contracts and the pure part. -/
import Derived.Test.YteoklaofbdfjlaaDoorNm3
namespace Go.Proofs.YteoklaofbdfjlaaDoor.PNames
open Go.RowKit Go.Proofs.YteoklaofbdfjlaaDoorW.PrintWords
set_option linter.unusedVariables false
theorem walkNameUnder (a0 : ByteArray) (a1 : ByteArray) (a2 : ByteArray) (w : World) (w0 : a0.size ≤ 140737488351232) (w1 : a1.size ≤ 140737488351232) (w2 : a2.size ≤ 140737488351232) :
    Calls Tryd.prog 4 #[.string a0, .string a1, .string a2] w fun e w' => e = .returned (.bool true) ∧ Below w.heap.size w w' := by
  obtain ⟨k, hk⟩ := Nm.nameUnder a0 a1 a2
  exact sumplaw08_NameUnder.calls k a0 a1 a2 true w hk rfl
theorem walkNameSplits (a0 : ByteArray) (a1 : ByteArray) (a2 : ByteArray) (w : World) (w0 : a0.size ≤ 140737488351232) (w1 : a1.size ≤ 140737488351232) (w2 : a2.size ≤ 140737488351232) :
    Calls Tryd.prog 5 #[.string a0, .string a1, .string a2] w fun e w' => e = .returned (.bool true) ∧ Below w.heap.size w w' := by
  obtain ⟨k, hk⟩ := Nm.nameSplits a0 a1 a2
  exact sumplaw08_NameSplits.calls k a0 a1 a2 true w hk rfl
theorem walkNameBack (A0 : Option Addr) (c0 : Nat) (l0 : (List ByteArray)) (w : World) (hl0 : l0.length ≤ c0) (hr0 : Kd.C Kd.string w A0 l0.length l0) (g0 : (l0.length ≤ maxLen ∧ ∀ y1 ∈ l0, y1.size ≤ maxLen)) (y0 : l0.length * 16 ≤ 140737488351232) :
    Calls Tryd.prog 3 #[.slice A0 l0.length c0] w fun e w' => e = .returned (.bool true) ∧ Below w.heap.size w w' := by
  obtain ⟨k, hk⟩ := Nm.nameBack l0
  exact sumplaw08_NameBack.calls k A0 c0 l0 true w hr0 hl0 hk rfl
end Go.Proofs.YteoklaofbdfjlaaDoor.PNames
