/- The law WordsReads: for every input the call returns true and each argument reads afterwards as before. No condition. The row's proof, out of the walk walkWordsReads; written by a program of this session. -/
import Derived.Test.YtlojhiacaleokaaRows
import Derived.Test.YtlojhiacaleokaaWc
import Derived.Test.YtlojhiacaleokaaO
import Derived.WalkKit
import Derived.ProofKit
import Derived.OpenShut
import Derived.ShutString
import Derived.ChangeOld
import Derived.Below
import Derived.SizedLaws
namespace Go.Proofs.Ytlojhiacaleokaa.wordsReads
open Go.ChangeShapes Go.WideShapes Go.ChangeAt Go.RowKit Go.Proofs.YtlojhiacaleokaaW.PrintWords
open Go.ChangeMaps (open_string shut_string)
open Go.Proofs.Ytlojhiacaleokaa.PWD
open Go.Proofs.Ytlojhiacaleokaa.PWD
set_option linter.unusedVariables false
theorem own : ownKnob Try.prog.godebug = none := by kernel_rfl
theorem laidOut : laidOutB Try.prog = true := by kernel_rfl
set_option maxRecDepth 100000 in
theorem lifted (os : Os) (started : os.Started) (H : Type) (enc : TypeId × Value → H) :
    ReturnsInHanded {} Try.checked os 5 .any (Rows.wordsReadsSpec.pre6 enc Try.prog Try.f5 Rows.wordsReadsRow.domain false) (Rows.wordsReadsSpec.post enc Try.prog Try.f5 false true false false) := by
  refine returnsInHanded_of_change_sized (C := Try.checked) own started (by kernel_rfl) Try.func5
    (ChangeSpec.witness6 (enc := enc) (C := Try.checked) false ⟨#[], #[.slice none 0 0, .slice none 0 0], []⟩ 8 (by kernel_rfl) (by kernel_rfl) (by kernel_rfl) (by kernel_rfl)) ?_
  intro W base args ds gs before hval0 hW hcnd hsz0 _
  have hsz : (DataW.weightsEach Try.prog (Try.f5.params.toList ++ Rows.wordsReadsSpec.plain.varTypes Try.prog) (ds ++ gs)).all (· ≤ reachBytes) = true := hsz0
  have hval : ∀ (j : Nat) t v, Try.f5.params[j]? = some t → args[j]? = some v → Value.okWide Try.prog W .any base t v := hval0
  have hW' := hW
  obtain ⟨p, q, hA0, hV, rfl, hfz, hnd⟩ := hW
  have hA : DataW.TrodAll enc Try.prog W 0 (fun _ => true) true Try.f5.params.toList args.toList ds p := hA0
  rw [Try.params5] at hA hval hsz
  obtain ⟨v0, vs0, d0, ds0, p0, q0, hargs, rfl, rfl, h0, r0⟩ := trodAll_cons hA
  obtain ⟨v1, vs1, d1, ds1, p1, q1, rfl, rfl, rfl, h1, r1⟩ := trodAll_cons r0
  obtain ⟨rfl, rfl, rfl⟩ := trodAll_nil r1
  obtain rfl : args = #[v0, v1] := by cases args; simp_all
  obtain ⟨rfl, rfl⟩ := trodVars_none hV
  have k0 := h0
  have lt0 : ∀ x ∈ p0, x.block < W.heap.size := by obtain ⟨m, hm⟩ := k0; exact DataW.trod_lt m _ _ _ hm
  have e0 := okWide_slice Try.underlying23 (hval 0 23 v0 rfl rfl)
  obtain ⟨A0, c0, l0, rfl, hl0, hr0, g0⟩ := O.open_arg_slice (k := (Kd.int .u64)) (O.opens_slice Try.underlying23 (by kernel_rfl) (O.opens_int Try.underlying44)) h0 (by obtain ⟨_, _, _, rfl⟩ := e0; rfl) e0
  have y0 : l0.length * 8 ≤ 140737488351232 := O.sized_any hsz (j := 0) (t := 23) rfl rfl Try.underlying23 (by kernel_rfl) h0
  have k1 := h1
  have lt1 : ∀ x ∈ p1, x.block < W.heap.size := by obtain ⟨m, hm⟩ := k1; exact DataW.trod_lt m _ _ _ hm
  have e1 := okWide_slice Try.underlying33 (hval 1 33 v1 rfl rfl)
  obtain ⟨A1, c1, l1, rfl, hl1, hr1, g1⟩ := O.open_arg_slice (k := (Kd.int .i64)) (O.opens_slice Try.underlying33 (by kernel_rfl) (O.opens_int Try.underlying3)) h1 (by obtain ⟨_, _, _, rfl⟩ := e1; rfl) e1
  have y1 : l1.length * 8 ≤ 140737488351232 := O.sized_any hsz (j := 1) (t := 33) rfl rfl Try.underlying33 (by kernel_rfl) h1
  clear hA0 hval0 hsz0 hsz
  refine (walkWordsReads A0 c0 l0 A1 c1 l1 W hl0 hr0 g0 y0 hl1 hr1 g1 y1).mono fun e W' ⟨he, bel⟩ => ?_
  subst he
  exact ⟨_, rfl, _, _, _, [], _, [], hW', trodAll_mk1 (shut_bool Try.underlying4 _), (trodAll_cons_mk (Below.trod laidOut (by kernel_rfl) (of_decide_eq_true (by kernel_rfl)) k0 bel lt0) (trodAll_cons_mk (Below.trod laidOut (by kernel_rfl) (of_decide_eq_true (by kernel_rfl)) k1 bel lt1) trodAll_mk0)), rfl, bel.frame _, fun h => by cases h⟩
theorem over : Rows.wordsReadsRow.holds Try.pinned (OpenSpec.ofChange Rows.wordsReadsSpec) :=
  OpenClaim.holds_of_wide 5 Try.f5 rfl rfl rfl rfl rfl rfl rfl ⟨rfl, rfl, rfl, rfl, rfl⟩ rfl rfl rfl rfl rfl (by kernel_rfl) Try.func5 (by kernel_rfl)
    (of_decide_eq_true (by kernel_rfl)) (by unfold Func.isWrapper; first | (rw [if_pos (by decide +kernel)]; kernel_rfl) | (rw [if_neg (by decide +kernel)]; exact ⟨rfl, rfl⟩))
    (fun os started H enc _ => lifted os started H enc)
theorem proved : Rows.WordsReadsSaid := over
#print axioms proved
end Go.Proofs.Ytlojhiacaleokaa.wordsReads
namespace Go.Proofs.Ytlojhiacaleokaa
/-- The row, under a short name, for the claim. -/
theorem wordsReads_holds : Rows.WordsReadsSaid := wordsReads.proved
end Go.Proofs.Ytlojhiacaleokaa
