/- The law StatSums: for every input the call returns true and each argument reads afterwards as before. No condition. The row's proof, out of the walk walkStatSums; written by a program of this session. -/
import Derived.Test.YtbbpjjbgdemmpaaRows
import Derived.Test.YtbbpjjbgdemmpaaWalkStatSums
import Derived.Test.YtbbpjjbgdemmpaaO
import Derived.WalkKit
import Derived.ProofKit
import Derived.OpenShut
import Derived.ShutString
import Derived.ChangeOld
import Derived.Below
import Derived.SizedLaws
namespace Go.Proofs.Ytbbpjjbgdemmpaa.statSums
open Go.ChangeShapes Go.WideShapes Go.ChangeAt Go.RowKit Go.Proofs.YtbbpjjbgdemmpaaW.PrintWords
open Go.ChangeMaps (open_string shut_string)
open Go.Proofs.Ytbbpjjbgdemmpaa.PStat
open Go.Proofs.Ytbbpjjbgdemmpaa.PStat
set_option linter.unusedVariables false
theorem own : ownKnob Try.prog.godebug = none := by kernel_rfl
theorem laidOut : laidOutB Try.prog = true := by kernel_rfl
theorem op40 : O.Opens Try.prog 40 k40 G40 := O.opens_weak (O.opens_struct Try.underlying40 (by kernel_rfl) (O.opens_more rfl (by kernel_rfl) (O.opens_int Try.underlying3) (O.opens_more rfl (by kernel_rfl) (O.opens_int Try.underlying3) (O.opens_more rfl (by kernel_rfl) (O.opens_int Try.underlying3) (O.opens_more rfl (by kernel_rfl) (O.opens_int Try.underlying3) (O.opens_more rfl (by kernel_rfl) (O.opens_int Try.underlying3) (O.opens_more rfl (by kernel_rfl) (O.opens_string Try.underlying9) (O.opens_more rfl (by kernel_rfl) (O.opens_string Try.underlying9) (O.opens_one rfl (by kernel_rfl) (O.opens_slice Try.underlying38 (by kernel_rfl) (O.opens_int Try.underlying5)))))))))) (fun x : S40 => (x.f0, x.f1, x.f2, x.f3, x.f4, x.f5, x.f6, x.f7)) (fun p => (⟨p.1, p.2.1, p.2.2.1, p.2.2.2.1, p.2.2.2.2.1, p.2.2.2.2.2.1, p.2.2.2.2.2.2.1, p.2.2.2.2.2.2.2⟩ : S40)) (fun _ => rfl)) (fun _ h => h)
theorem op52 : O.Opens Try.prog 52 k52 G52 := O.opens_weak (O.opens_struct Try.underlying52 (by kernel_rfl) (O.opens_more rfl (by kernel_rfl) (O.opens_int Try.underlying49) (O.opens_more rfl (by kernel_rfl) (O.opens_int Try.underlying3) (O.opens_more rfl (by kernel_rfl) (O.opens_int Try.underlying3) (O.opens_more rfl (by kernel_rfl) (O.opens_int Try.underlying3) (O.opens_more rfl (by kernel_rfl) (O.opens_int Try.underlying3) (O.opens_more rfl (by kernel_rfl) (O.opens_slice Try.underlying38 (by kernel_rfl) (O.opens_int Try.underlying5)) (O.opens_one rfl (by kernel_rfl) (O.opens_slice Try.underlying50 (by kernel_rfl) (O.opens_string Try.underlying9))))))))) (fun x : S52 => (x.f0, x.f1, x.f2, x.f3, x.f4, x.f5, x.f6)) (fun p => (⟨p.1, p.2.1, p.2.2.1, p.2.2.2.1, p.2.2.2.2.1, p.2.2.2.2.2.1, p.2.2.2.2.2.2⟩ : S52)) (fun _ => rfl)) (fun _ h => h)
theorem op54 : O.Opens Try.prog 54 k54 G54 := O.opens_weak (O.opens_struct Try.underlying54 (by kernel_rfl) (O.opens_more rfl (by kernel_rfl) (O.opens_int Try.underlying3) (O.opens_more rfl (by kernel_rfl) op40 (O.opens_more rfl (by kernel_rfl) op52 (O.opens_more rfl (by kernel_rfl) (O.opens_int Try.underlying3) (O.opens_one rfl (by kernel_rfl) (O.opens_int Try.underlying3)))))) (fun x : S54 => (x.f0, x.f1, x.f2, x.f3, x.f4)) (fun p => (⟨p.1, p.2.1, p.2.2.1, p.2.2.2.1, p.2.2.2.2⟩ : S54)) (fun _ => rfl)) (fun _ h => h)
set_option maxRecDepth 100000 in
theorem lifted (os : Os) (started : os.Started) (H : Type) (enc : TypeId × Value → H) :
    ReturnsInHanded {} Try.checked os 9 .any (Rows.statSumsSpec.pre6 enc Try.prog Try.f9 Rows.statSumsRow.domain false) (Rows.statSumsSpec.post enc Try.prog Try.f9 false true false false) := by
  refine returnsInHanded_of_change_sized (C := Try.checked) own started (by kernel_rfl) Try.func9
    (ChangeSpec.witness6 (enc := enc) (C := Try.checked) false ⟨#[], #[.slice none 0 0], []⟩ 8 (by kernel_rfl) (by kernel_rfl) (by kernel_rfl) (by kernel_rfl)) ?_
  intro W base args ds gs before hval0 hW hcnd hsz0 _
  have hsz : (DataW.weightsEach Try.prog (Try.f9.params.toList ++ Rows.statSumsSpec.plain.varTypes Try.prog) (ds ++ gs)).all (· ≤ reachBytes) = true := hsz0
  have hval : ∀ (j : Nat) t v, Try.f9.params[j]? = some t → args[j]? = some v → Value.okWide Try.prog W .any base t v := hval0
  have hW' := hW
  obtain ⟨p, q, hA0, hV, rfl, hfz, hnd⟩ := hW
  have hA : DataW.TrodAll enc Try.prog W 0 (fun _ => true) true Try.f9.params.toList args.toList ds p := hA0
  rw [Try.params9] at hA hval hsz
  obtain ⟨v0, vs0, d0, ds0, p0, q0, hargs, rfl, rfl, h0, r0⟩ := trodAll_cons hA
  obtain ⟨rfl, rfl, rfl⟩ := trodAll_nil r0
  obtain rfl : args = #[v0] := by cases args; simp_all
  obtain ⟨rfl, rfl⟩ := trodVars_none hV
  have k0 := h0
  have lt0 : ∀ x ∈ p0, x.block < W.heap.size := by obtain ⟨m, hm⟩ := k0; exact DataW.trod_lt m _ _ _ hm
  have e0 := okWide_slice Try.underlying43 (hval 0 43 v0 rfl rfl)
  obtain ⟨A0, c0, l0, rfl, hl0, hr0, g0⟩ := O.open_arg_slice (k := k54) (O.opens_slice Try.underlying43 (by kernel_rfl) op54) h0 (by obtain ⟨_, _, _, rfl⟩ := e0; rfl) e0
  have y0 : l0.length * 208 ≤ 140737488351232 := O.sized_any hsz (j := 0) (t := 43) rfl rfl Try.underlying43 (by kernel_rfl) h0
  clear hA0 hval0 hsz0 hsz
  refine (walkStatSums A0 c0 l0 W hl0 hr0 g0 y0).mono fun e W' ⟨he, bel⟩ => ?_
  subst he
  exact ⟨_, rfl, _, _, _, [], _, [], hW', trodAll_mk1 (shut_bool Try.underlying4 _), (trodAll_cons_mk (Below.trod laidOut (by kernel_rfl) (of_decide_eq_true (by kernel_rfl)) k0 bel lt0) trodAll_mk0), rfl, bel.frame _, fun h => by cases h⟩
theorem over : Rows.statSumsRow.holds Try.pinned (OpenSpec.ofChange Rows.statSumsSpec) :=
  OpenClaim.holds_of_wide 9 Try.f9 rfl rfl rfl rfl rfl rfl rfl ⟨rfl, rfl, rfl, rfl, rfl⟩ rfl rfl rfl rfl rfl (by kernel_rfl) Try.func9 (by kernel_rfl)
    (of_decide_eq_true (by kernel_rfl)) (by unfold Func.isWrapper; first | (rw [if_pos (by decide +kernel)]; kernel_rfl) | (rw [if_neg (by decide +kernel)]; exact ⟨rfl, rfl⟩))
    (fun os started H enc _ => lifted os started H enc)
theorem proved : Rows.StatSumsSaid := over
#print axioms proved
end Go.Proofs.Ytbbpjjbgdemmpaa.statSums
namespace Go.Proofs.Ytbbpjjbgdemmpaa
/-- The row, under a short name, for the claim. -/
theorem statSums_holds : Rows.StatSumsSaid := statSums.proved
end Go.Proofs.Ytbbpjjbgdemmpaa
