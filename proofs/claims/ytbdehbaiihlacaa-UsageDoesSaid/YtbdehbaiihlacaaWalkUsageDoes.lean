/- UsageDoes: the walk: out of the printed contract and the pure part. -/
import Derived.Test.YtbdehbaiihlacaaPUsageDoesx3
import Derived.Test.YtbdehbaiihlacaaPureUsageDoes
namespace Go.Proofs.Ytbdehbaiihlacaa.PUsageDoes
open Go.RowKit Go.Proofs.YtbdehbaiihlacaaW.PrintWords
set_option linter.unusedVariables false
theorem walkUsageDoes (A0 : Option Addr) (c0 : Nat) (l0 : (List S29)) (a1 : ByteArray) (a2 : ByteArray) (A3 : Option Addr) (c3 : Nat) (l3 : (List S31)) (w : World) (hl0 : l0.length ≤ c0) (hr0 : Kd.C k29 w A0 l0.length l0) (g0 : (l0.length ≤ maxLen ∧ ∀ y1 ∈ l0, G29 y1)) (y0 : l0.length * 64 ≤ 140737488351232) (w1 : a1.size ≤ 140737488351232) (w2 : a2.size ≤ 140737488351232) (hl3 : l3.length ≤ c3) (hr3 : Kd.C k31 w A3 l3.length l3) (g3 : (l3.length ≤ maxLen ∧ ∀ y2 ∈ l3, G31 y2)) (y3 : l3.length * 40 ≤ 140737488351232) :
    Calls Try.prog 3 #[.slice A0 l0.length c0, .string a1, .string a2, .slice A3 l3.length c3] w fun e w' => e = .returned (.bool true) ∧ Below w.heap.size w w' := by
  obtain ⟨k, hk⟩ := law l0 a1 a2 l3 g0 y0 w1 w2 g3 y3
  exact sumplaw42_UsageDoes.calls k A0 c0 l0 a1 a2 A3 c3 l3 true w hr0 hl0 hr3 hl3 hk rfl
end Go.Proofs.Ytbdehbaiihlacaa.PUsageDoes
