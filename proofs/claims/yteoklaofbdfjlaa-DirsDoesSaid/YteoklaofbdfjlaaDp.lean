/- dirs.Drop's contract. -/
import Derived.Test.YteoklaofbdfjlaaDe
namespace Go.Proofs.Yteoklaofbdfjlaa.Dc
open Go.RowKit Go.Lib Go.Proofs.YteoklaofbdfjlaaW.PrintWords Go.Proofs.YteoklaofbdfjlaaW.PrintLast Go.Proofs.YteoklaofbdfjlaaW.PrintMore Go.Proofs.Yteoklaofbdfjlaa.PDirs
set_option linter.unusedVariables false
set_option maxHeartbeats 1000000 in
theorem drop_calls (A0 : Option Addr) (c0 : Nat) (l0 : List S49) (a1 : ByteArray) (w : World) (hr0 : Kd.C k49 w A0 l0.length l0) (hc0 : l0.length ≤ c0) (hl : l0.length ≤ 1000) :
    Calls Try.prog 26 #[.slice A0 l0.length c0, .string a1] w fun e w' => ∃ v0_ : Value, e = .returned (.tuple #[v0_, .bool (decide ((l0.filter fun x => !del a1 x).length < l0.length))]) ∧ Kd.R k49 49 w' w.heap.size (fun _ => True) v0_ (l0.filter fun x => !del a1 x) ∧ Below w.heap.size w w' := by
  have hA : Below w.heap.size w (w.alloc (.cells #[.string a1] 9)) := below_alloc (Below.refl _ _) _
  have HC := Aside0.mk (clone.calls A0 c0 l0 l0 (w.alloc (.cells #[.string a1] 9)) (Kd.C_alloc hr0 _) hc0 (by unfold clone.f; rw [if_pos (by omega)]))
  have HB0 := Aside0.mk (blk_new w (.cells #[.string a1] 9))
  have HL := Aside0.mk hl
  have HA := Aside0.mk hA
  obtain ⟨fl, hfl⟩ : ∃ fl, fl = l0.filter fun x => !del a1 x := ⟨_, rfl⟩
  rw [← hfl]
  have HF := Aside0.mk hfl
  clear hr0 hc0 hl hA hfl
  go_enter Try.func26, Try.ntmps26
  go_wp2_with (first
    | (go_at_call 59; refine HC.out.mono ?_; rintro e w1 ⟨v, rfl, hR, hB⟩; clear HC; obtain ⟨A1, c1, rfl⟩ := Kd.R_slice hR; have HR := Aside0.mk (Kd.R_lower (base' := w.heap.size) hR (by simp)); have HBl := Aside0.mk (below_step HA.out hB); have HBk := Aside0.mk (blk_below HB0.out hB); clear hR hB HB0 HA)
    | (go_at_call 58; refine (deleteFunc a1 w.heap.size A1 c1 (fun _ => True) l0 w w1 HBl.out HL.out HR.out HBk.out (Nat.le_refl _)).mono ?_; rintro e w2 ⟨v2, rfl, hR2, hB2⟩; rw [← HF.out] at hR2; clear HR HBl HBk; obtain ⟨A2, c2, rfl⟩ := Kd.R_slice hR2; have HR := Aside0.mk hR2; have HBl := Aside0.mk hB2; clear hR2 hB2))
  go_ret2
  exact ⟨_, rfl, HR.out, HBl.out⟩
end Go.Proofs.Yteoklaofbdfjlaa.Dc
