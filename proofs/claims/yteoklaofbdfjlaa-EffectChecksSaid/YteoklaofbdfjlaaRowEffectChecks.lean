/- The law EffectChecks: for every input the call returns true and each argument reads afterwards as before. No condition. The row's proof, out of the walk walkEffectChecks; written by a program of this session. -/
import Derived.Test.YteoklaofbdfjlaaRows
import Derived.Test.YteoklaofbdfjlaaWalkEffectChecks
import Derived.Test.YteoklaofbdfjlaaO
import Derived.WalkKit
import Derived.ProofKit
import Derived.OpenShut
import Derived.ShutString
import Derived.ChangeOld
import Derived.Below
import Derived.SizedLaws
namespace Go.Proofs.Yteoklaofbdfjlaa.effectChecks
open Go.ChangeShapes Go.WideShapes Go.ChangeAt Go.RowKit Go.Proofs.YteoklaofbdfjlaaW.PrintWords
open Go.ChangeMaps (open_string shut_string)
open Go.Proofs.Yteoklaofbdfjlaa.PEffectChecks
open Go.Proofs.Yteoklaofbdfjlaa.PEffectChecks
set_option linter.unusedVariables false
theorem own : ownKnob Try.prog.godebug = none := by kernel_rfl
theorem laidOut : laidOutB Try.prog = true := by kernel_rfl
theorem op24 : O.Opens Try.prog 24 k24 G24 := O.opens_weak (O.opens_struct Try.underlying24 (by kernel_rfl) (O.opens_more rfl (by kernel_rfl) (O.opens_int Try.underlying3) (O.opens_more rfl (by kernel_rfl) (O.opens_int Try.underlying3) (O.opens_more rfl (by kernel_rfl) (O.opens_int Try.underlying3) (O.opens_more rfl (by kernel_rfl) (O.opens_int Try.underlying3) (O.opens_more rfl (by kernel_rfl) (O.opens_int Try.underlying3) (O.opens_more rfl (by kernel_rfl) (O.opens_int Try.underlying3) (O.opens_more rfl (by kernel_rfl) (O.opens_string Try.underlying9) (O.opens_more rfl (by kernel_rfl) (O.opens_string Try.underlying9) (O.opens_one rfl (by kernel_rfl) (O.opens_slice Try.underlying22 (by kernel_rfl) (O.opens_int Try.underlying5))))))))))) (fun x : S24 => (x.f0, x.f1, x.f2, x.f3, x.f4, x.f5, x.f6, x.f7, x.f8)) (fun p => (⟨p.1, p.2.1, p.2.2.1, p.2.2.2.1, p.2.2.2.2.1, p.2.2.2.2.2.1, p.2.2.2.2.2.2.1, p.2.2.2.2.2.2.2.1, p.2.2.2.2.2.2.2.2⟩ : S24)) (fun _ => rfl)) (fun _ h => h)
set_option maxRecDepth 100000 in
theorem lifted (os : Os) (started : os.Started) (H : Type) (enc : TypeId × Value → H) :
    ReturnsInHanded {} Try.checked os 3 .any (Rows.effectChecksSpec.pre6 enc Try.prog Try.f3 Rows.effectChecksRow.domain false) (Rows.effectChecksSpec.post enc Try.prog Try.f3 false true false false) := by
  refine returnsInHanded_of_change_sized (C := Try.checked) own started (by kernel_rfl) Try.func3
    (ChangeSpec.witness6 (enc := enc) (C := Try.checked) false ⟨#[], #[.agg #[.int .i64 0, .int .i64 0, .int .i64 0, .int .i64 0, .int .i64 0, .int .i64 0, .string ByteArray.empty, .string ByteArray.empty, .slice none 0 0], .agg #[.int .i64 0, .int .i64 0, .int .i64 0, .int .i64 0, .int .i64 0, .int .i64 0, .string ByteArray.empty, .string ByteArray.empty, .slice none 0 0], .int .i64 0], []⟩ 8 (by kernel_rfl) (by kernel_rfl) (by kernel_rfl) (by kernel_rfl)) ?_
  intro W base args ds gs before hval0 hW hcnd hsz0 _
  have hsz : (DataW.weightsEach Try.prog (Try.f3.params.toList ++ Rows.effectChecksSpec.plain.varTypes Try.prog) (ds ++ gs)).all (· ≤ reachBytes) = true := hsz0
  have hval : ∀ (j : Nat) t v, Try.f3.params[j]? = some t → args[j]? = some v → Value.okWide Try.prog W .any base t v := hval0
  have hW' := hW
  obtain ⟨p, q, hA0, hV, rfl, hfz, hnd⟩ := hW
  have hA : DataW.TrodAll enc Try.prog W 0 (fun _ => true) true Try.f3.params.toList args.toList ds p := hA0
  rw [Try.params3] at hA hval hsz
  obtain ⟨v0, vs0, d0, ds0, p0, q0, hargs, rfl, rfl, h0, r0⟩ := trodAll_cons hA
  obtain ⟨v1, vs1, d1, ds1, p1, q1, rfl, rfl, rfl, h1, r1⟩ := trodAll_cons r0
  obtain ⟨v2, vs2, d2, ds2, p2, q2, rfl, rfl, rfl, h2, r2⟩ := trodAll_cons r1
  obtain ⟨rfl, rfl, rfl⟩ := trodAll_nil r2
  obtain rfl : args = #[v0, v1, v2] := by cases args; simp_all
  obtain ⟨rfl, rfl⟩ := trodVars_none hV
  have k0 := h0
  have lt0 : ∀ x ∈ p0, x.block < W.heap.size := by obtain ⟨m, hm⟩ := k0; exact DataW.trod_lt m _ _ _ hm
  obtain ⟨x0, cs0, rfl, K0, g0⟩ := O.open_arg_agg op24 h0 (O.okWide_agg Try.underlying24 (hval 0 24 v0 rfl rfl))
  have k1 := h1
  have lt1 : ∀ x ∈ p1, x.block < W.heap.size := by obtain ⟨m, hm⟩ := k1; exact DataW.trod_lt m _ _ _ hm
  obtain ⟨x1, cs1, rfl, K1, g1⟩ := O.open_arg_agg op24 h1 (O.okWide_agg Try.underlying24 (hval 1 24 v1 rfl rfl))
  obtain ⟨a2, rfl, rfl, rfl, w2⟩ := open_int Try.underlying3 (hval 2 3 v2 rfl rfl) h2
  clear hA0 hval0 hsz0 hsz
  refine (walkEffectChecks x0 cs0 x1 cs1 a2 W K0 g0 K1 g1 w2).mono fun e W' ⟨he, bel⟩ => ?_
  subst he
  exact ⟨_, rfl, _, _, _, [], _, [], hW', trodAll_mk1 (shut_bool Try.underlying4 _), (trodAll_cons_mk (Below.trod laidOut (by kernel_rfl) (of_decide_eq_true (by kernel_rfl)) k0 bel lt0) (trodAll_cons_mk (Below.trod laidOut (by kernel_rfl) (of_decide_eq_true (by kernel_rfl)) k1 bel lt1) (trodAll_cons_mk (shut_int Try.underlying3 w2) trodAll_mk0))), rfl, bel.frame _, fun h => by cases h⟩
theorem over : Rows.effectChecksRow.holds Try.pinned (OpenSpec.ofChange Rows.effectChecksSpec) :=
  OpenClaim.holds_of_wide 3 Try.f3 rfl rfl rfl rfl rfl rfl rfl ⟨rfl, rfl, rfl, rfl, rfl⟩ rfl rfl rfl rfl rfl (by kernel_rfl) Try.func3 (by kernel_rfl)
    (of_decide_eq_true (by kernel_rfl)) (by unfold Func.isWrapper; first | (rw [if_pos (by decide +kernel)]; kernel_rfl) | (rw [if_neg (by decide +kernel)]; exact ⟨rfl, rfl⟩))
    (fun os started H enc _ => lifted os started H enc)
theorem proved : Rows.EffectChecksSaid := over
#print axioms proved
end Go.Proofs.Yteoklaofbdfjlaa.effectChecks
namespace Go.Proofs.Yteoklaofbdfjlaa
/-- The row, under a short name, for the claim. -/
theorem effectChecks_holds : Rows.EffectChecksSaid := effectChecks.proved
end Go.Proofs.Yteoklaofbdfjlaa
