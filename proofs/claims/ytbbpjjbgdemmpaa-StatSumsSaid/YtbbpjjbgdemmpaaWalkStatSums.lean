/- StatSums: the walk in the row's form. -/
import Derived.Test.YtbbpjjbgdemmpaaMn
namespace Go.Proofs.Ytbbpjjbgdemmpaa.PStat
open Go.RowKit Go.Proofs.YtbbpjjbgdemmpaaW.PrintWords
set_option linter.unusedVariables false
instance : Inhabited S54 := ⟨z54⟩
instance : Inhabited S40 := ⟨z40⟩
instance : Inhabited S52 := ⟨z52⟩
def G40 (x : S40) : Prop := (Lit.int .i64 x.f0).wf = true ∧ (Lit.int .i64 x.f1).wf = true ∧ (Lit.int .i64 x.f2).wf = true ∧ (Lit.int .i64 x.f3).wf = true ∧ (Lit.int .i64 x.f4).wf = true ∧ x.f5.size ≤ maxLen ∧ x.f6.size ≤ maxLen ∧ (x.f7.length ≤ maxLen ∧ ∀ y2 ∈ x.f7, (Lit.int .u8 y2).wf = true)
def G52 (x : S52) : Prop := (Lit.int .i64 x.f0).wf = true ∧ (Lit.int .i64 x.f1).wf = true ∧ (Lit.int .i64 x.f2).wf = true ∧ (Lit.int .i64 x.f3).wf = true ∧ (Lit.int .i64 x.f4).wf = true ∧ (x.f5.length ≤ maxLen ∧ ∀ y4 ∈ x.f5, (Lit.int .u8 y4).wf = true) ∧ (x.f6.length ≤ maxLen ∧ ∀ y3 ∈ x.f6, y3.size ≤ maxLen)
def G54 (x : S54) : Prop := (Lit.int .i64 x.f0).wf = true ∧ G40 x.f1 ∧ G52 x.f2 ∧ (Lit.int .i64 x.f3).wf = true ∧ (Lit.int .i64 x.f4).wf = true
theorem walkStatSums (A0 : Option Addr) (c0 : Nat) (l0 : (List S54)) (w : World) (hl0 : l0.length ≤ c0) (hr0 : Kd.C k54 w A0 l0.length l0) (g0 : (l0.length ≤ maxLen ∧ ∀ y1 ∈ l0, G54 y1)) (y0 : l0.length * 208 ≤ 140737488351232) :
    Calls Try.prog 9 #[.slice A0 l0.length c0] w fun e w' => e = .returned (.bool true) ∧ Below w.heap.size w w' :=
  law9 A0 c0 l0 w hl0 hr0 (by omega) (fun x hx => (g0.2 x hx).2.2.1.1)
end Go.Proofs.Ytbbpjjbgdemmpaa.PStat
