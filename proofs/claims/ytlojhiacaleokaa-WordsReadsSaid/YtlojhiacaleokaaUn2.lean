/- Words: Unpack where the size can't be. -/
import Derived.Test.YtlojhiacaleokaaUn
namespace Go.Proofs.Ytlojhiacaleokaa.PWD
open Go.RowKit Go.Proofs.YtlojhiacaleokaaW.PrintWords Go.Proofs.YtlojhiacaleokaaW.PrintLast Go.Proofs.YtlojhiacaleokaaW.PrintMore
set_option linter.unusedVariables false
set_option linter.unusedSimpArgs false
set_option maxHeartbeats 2000000 in
theorem unpack_none (A0 : Option Addr) (c0 : Nat) (l0 : List Int) (n m : Int) (w : World) (hnd : words_Need.f n = some m) (h : n < 0 ∨ m ≠ (l0.length : Int)) :
    Calls Try.prog 7 #[.slice A0 l0.length c0, .int .i64 n] w fun e w' => ∃ v0 : Value, e = .returned (.tuple #[v0, .bool false]) ∧ Kd.R (Kd.int .u8) 5 w' w.heap.size (fun _ => True) v0 [] ∧ Below w.heap.size w w' := by
  by_cases h1 : n < 0
  · have b0 : decide (n < 0) = true := decide_eq_true h1
    clear h h1
    go_enter Try.func7, Try.ntmps7
    go_wp2
    refine wp_scope_jumps 0 (fun _ _ => False) (fun _ _ => 0) rfl ?_ (fun _ _ h => h.elim)
    go_wp2
    simp only [Exit.jump]
    go_ret2
    exact ⟨_, rfl, Kd.R_nil _ _ _ _ _, Below.refl _ _⟩
  · have b0 : decide (n < 0) = false := decide_eq_false h1
    have b1 : (m != (l0.length : Int)) = true := bne_iff_ne.mpr (h.resolve_left h1)
    have HND := Aside0.mk hnd
    clear h h1 hnd
    go_enter Try.func7, Try.ntmps7
    go_wp2
    refine wp_scope_jumps 0 (fun _ _ => False) (fun _ _ => 0) rfl ?_ (fun _ _ h => h.elim)
    go_wp2_with (go_at_call 13; (with_reducible refine (words_Need.calls n m _ HND.out).mono ?_); rintro e w1 ⟨rfl, ⟨nd, rfl⟩⟩)
    simp only [Exit.jump]
    go_ret2
    exact ⟨_, rfl, Kd.R_nil _ _ _ _ _, pw_below_drewN (Below.refl _ _) _⟩
end Go.Proofs.Ytlojhiacaleokaa.PWD
