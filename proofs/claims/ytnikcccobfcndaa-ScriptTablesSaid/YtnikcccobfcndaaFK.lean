/- Rows of floats: the kind, and what a reading of one says. No program in sight. -/
import Derived.Test.YtnikcccobfcndaaO
import Derived.Test.YtnikcccobfcndaaFC
namespace Go.Proofs.Ytnikcccobfcndaa.FK
open Go.RowKit Go.Proofs.YtnikcccobfcndaaW.PrintWords Go.ChangeShapes Go.WideShapes Go.Deep
set_option linter.unusedVariables false
def kf (k : FloatKind) : Kd Nat := Kd.scalar (Value.float k) (fun _ => rfl)
theorem trod_float {P : Program} {t : TypeId} {H : Type} {enc : TypeId × Value → H} {w : World} {base : Nat} {spare : Nat → Bool} {held : Bool} {fuel : Nat} {cs : List Value} {x : DataW H × List MemPlace} {k : FloatKind} (ht : P.underlying t = some (.float k)) (h : DataW.trod enc P w base spare held fuel t cs = some x) : ∃ n, cs = [.float k n] ∧ x = (.lit (.float k n), []) ∧ (Lit.float k n).wf = true := by
  cases fuel with
  | zero => simp [DataW.trod] at h
  | succ n =>
    unfold DataW.trod at h
    rw [ht] at h
    split at h <;> simp_all
theorem opens_float {P : Program} {t : TypeId} {k : FloatKind} (ht : P.underlying t = some (.float k)) : O.Opens P t (kf k) (fun n => (Lit.float k n).wf = true) := by
  intro H enc w base spare held fuel cs x h
  obtain ⟨n, rfl, _, hw⟩ := trod_float ht h
  exact ⟨n, rfl, hw⟩
theorem C_at {w : World} {k : FloatKind} {A : Option Addr} {n : Nat} {l : List Nat} (h : Kd.C (kf k) w A n l) (ad : Addr) (hA : A = some ad) : ∀ j x, l[j]? = some x → w.cell? (ad.add j) = some (.float k x) := by
  intro j x hj
  obtain ⟨ad', e1, hc⟩ := h.2.2 (by have h1 := h.1; have := (List.getElem?_eq_some_iff.1 hj).1; omega)
  rw [hA] at e1
  obtain rfl := Option.some.inj e1
  obtain ⟨c, _, hk, hcell⟩ := hc j x hj
  have := hcell 0 (.float k x) (by rw [show c = [Value.float k x] from hk]; rfl)
  rwa [show j * (kf k).sz + 0 = j by show j * 1 + 0 = j; omega] at this
end Go.Proofs.Ytnikcccobfcndaa.FK
