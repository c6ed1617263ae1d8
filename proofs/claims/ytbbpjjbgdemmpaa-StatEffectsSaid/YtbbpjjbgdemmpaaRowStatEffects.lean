/- The law StatEffects: for every input the call returns true and each argument reads afterwards as before. No condition. The row's proof, out of the walk walkStatEffects; written by a program of this session. -/
import Derived.Test.YtbbpjjbgdemmpaaRows
import Derived.Test.YtbbpjjbgdemmpaaSe
import Derived.Test.YtbbpjjbgdemmpaaO
import Derived.WalkKit
import Derived.ProofKit
import Derived.OpenShut
import Derived.ShutString
import Derived.ChangeOld
import Derived.Below
import Derived.SizedLaws
namespace Go.Proofs.Ytbbpjjbgdemmpaa.statEffects
open Go.ChangeShapes Go.WideShapes Go.ChangeAt Go.RowKit Go.Proofs.YtbbpjjbgdemmpaaW.PrintWords
open Go.ChangeMaps (open_string shut_string)
open Go.Proofs.Ytbbpjjbgdemmpaa.PStatEffects
open Go.Proofs.Ytbbpjjbgdemmpaa.PStatEffects
set_option linter.unusedVariables false
theorem own : ownKnob Try.prog.godebug = none := by kernel_rfl
theorem laidOut : laidOutB Try.prog = true := by kernel_rfl
theorem op61 : O.Opens Try.prog 61 k61 G61 := O.opens_weak (O.opens_struct Try.underlying61 (by kernel_rfl) (O.opens_more rfl (by kernel_rfl) (O.opens_int Try.underlying3) (O.opens_more rfl (by kernel_rfl) (O.opens_int Try.underlying3) (O.opens_more rfl (by kernel_rfl) (O.opens_int Try.underlying3) (O.opens_more rfl (by kernel_rfl) (O.opens_int Try.underlying3) (O.opens_more rfl (by kernel_rfl) (O.opens_int Try.underlying3) (O.opens_more rfl (by kernel_rfl) (O.opens_int Try.underlying3) (O.opens_more rfl (by kernel_rfl) (O.opens_string Try.underlying9) (O.opens_more rfl (by kernel_rfl) (O.opens_string Try.underlying9) (O.opens_one rfl (by kernel_rfl) (O.opens_slice Try.underlying38 (by kernel_rfl) (O.opens_int Try.underlying5))))))))))) (fun x : S61 => (x.f0, x.f1, x.f2, x.f3, x.f4, x.f5, x.f6, x.f7, x.f8)) (fun p => (⟨p.1, p.2.1, p.2.2.1, p.2.2.2.1, p.2.2.2.2.1, p.2.2.2.2.2.1, p.2.2.2.2.2.2.1, p.2.2.2.2.2.2.2.1, p.2.2.2.2.2.2.2.2⟩ : S61)) (fun _ => rfl)) (fun _ h => h)
theorem op56 : O.Opens Try.prog 56 k56 G56 := O.opens_weak (O.opens_struct Try.underlying56 (by kernel_rfl) (O.opens_more rfl (by kernel_rfl) (O.opens_int Try.underlying3) (O.opens_more rfl (by kernel_rfl) (O.opens_int Try.underlying3) (O.opens_more rfl (by kernel_rfl) (O.opens_int Try.underlying3) (O.opens_more rfl (by kernel_rfl) (O.opens_int Try.underlying3) (O.opens_more rfl (by kernel_rfl) (O.opens_int Try.underlying3) (O.opens_one rfl (by kernel_rfl) (O.opens_int Try.underlying3))))))) (fun x : S56 => (x.f0, x.f1, x.f2, x.f3, x.f4, x.f5)) (fun p => (⟨p.1, p.2.1, p.2.2.1, p.2.2.2.1, p.2.2.2.2.1, p.2.2.2.2.2⟩ : S56)) (fun _ => rfl)) (fun _ h => h)
set_option maxRecDepth 100000 in
theorem lifted (os : Os) (started : os.Started) (H : Type) (enc : TypeId × Value → H) :
    ReturnsInHanded {} Try.checked os 10 .any (Rows.statEffectsSpec.pre6 enc Try.prog Try.f10 Rows.statEffectsRow.domain false) (Rows.statEffectsSpec.post enc Try.prog Try.f10 false true false false) := by
  refine returnsInHanded_of_change_sized (C := Try.checked) own started (by kernel_rfl) Try.func10
    (ChangeSpec.witness6 (enc := enc) (C := Try.checked) false ⟨#[], #[.slice none 0 0, .slice none 0 0, .agg #[.int .i64 0, .int .i64 0, .int .i64 0, .int .i64 0, .int .i64 0, .int .i64 0], .agg #[.int .i64 0, .int .i64 0, .int .i64 0, .int .i64 0, .int .i64 0, .int .i64 0]], []⟩ 8 (by kernel_rfl) (by kernel_rfl) (by kernel_rfl) (by kernel_rfl)) ?_
  intro W base args ds gs before hval0 hW hcnd hsz0 _
  have hsz : (DataW.weightsEach Try.prog (Try.f10.params.toList ++ Rows.statEffectsSpec.plain.varTypes Try.prog) (ds ++ gs)).all (· ≤ reachBytes) = true := hsz0
  have hval : ∀ (j : Nat) t v, Try.f10.params[j]? = some t → args[j]? = some v → Value.okWide Try.prog W .any base t v := hval0
  have hW' := hW
  obtain ⟨p, q, hA0, hV, rfl, hfz, hnd⟩ := hW
  have hA : DataW.TrodAll enc Try.prog W 0 (fun _ => true) true Try.f10.params.toList args.toList ds p := hA0
  rw [Try.params10] at hA hval hsz
  obtain ⟨v0, vs0, d0, ds0, p0, q0, hargs, rfl, rfl, h0, r0⟩ := trodAll_cons hA
  obtain ⟨v1, vs1, d1, ds1, p1, q1, rfl, rfl, rfl, h1, r1⟩ := trodAll_cons r0
  obtain ⟨v2, vs2, d2, ds2, p2, q2, rfl, rfl, rfl, h2, r2⟩ := trodAll_cons r1
  obtain ⟨v3, vs3, d3, ds3, p3, q3, rfl, rfl, rfl, h3, r3⟩ := trodAll_cons r2
  obtain ⟨rfl, rfl, rfl⟩ := trodAll_nil r3
  obtain rfl : args = #[v0, v1, v2, v3] := by cases args; simp_all
  obtain ⟨rfl, rfl⟩ := trodVars_none hV
  have k0 := h0
  have lt0 : ∀ x ∈ p0, x.block < W.heap.size := by obtain ⟨m, hm⟩ := k0; exact DataW.trod_lt m _ _ _ hm
  have e0 := okWide_slice Try.underlying58 (hval 0 58 v0 rfl rfl)
  obtain ⟨A0, c0, l0, rfl, hl0, hr0, g0⟩ := O.open_arg_slice (k := k61) (O.opens_slice Try.underlying58 (by kernel_rfl) op61) h0 (by obtain ⟨_, _, _, rfl⟩ := e0; rfl) e0
  have y0 : l0.length * 104 ≤ 140737488351232 := O.sized_any hsz (j := 0) (t := 58) rfl rfl Try.underlying58 (by kernel_rfl) h0
  have k1 := h1
  have lt1 : ∀ x ∈ p1, x.block < W.heap.size := by obtain ⟨m, hm⟩ := k1; exact DataW.trod_lt m _ _ _ hm
  have e1 := okWide_slice Try.underlying58 (hval 1 58 v1 rfl rfl)
  obtain ⟨A1, c1, l1, rfl, hl1, hr1, g1⟩ := O.open_arg_slice (k := k61) (O.opens_slice Try.underlying58 (by kernel_rfl) op61) h1 (by obtain ⟨_, _, _, rfl⟩ := e1; rfl) e1
  have y1 : l1.length * 104 ≤ 140737488351232 := O.sized_any hsz (j := 1) (t := 58) rfl rfl Try.underlying58 (by kernel_rfl) h1
  have k2 := h2
  have lt2 : ∀ x ∈ p2, x.block < W.heap.size := by obtain ⟨m, hm⟩ := k2; exact DataW.trod_lt m _ _ _ hm
  obtain ⟨x2, cs2, rfl, K2, g2⟩ := O.open_arg_agg op56 h2 (O.okWide_agg Try.underlying56 (hval 2 56 v2 rfl rfl))
  have k3 := h3
  have lt3 : ∀ x ∈ p3, x.block < W.heap.size := by obtain ⟨m, hm⟩ := k3; exact DataW.trod_lt m _ _ _ hm
  obtain ⟨x3, cs3, rfl, K3, g3⟩ := O.open_arg_agg op56 h3 (O.okWide_agg Try.underlying56 (hval 3 56 v3 rfl rfl))
  clear hA0 hval0 hsz0 hsz
  refine (walkStatEffects A0 c0 l0 A1 c1 l1 x2 cs2 x3 cs3 W hl0 hr0 g0 y0 hl1 hr1 g1 y1 K2 g2 K3 g3).mono fun e W' ⟨he, bel⟩ => ?_
  subst he
  exact ⟨_, rfl, _, _, _, [], _, [], hW', trodAll_mk1 (shut_bool Try.underlying4 _), (trodAll_cons_mk (Below.trod laidOut (by kernel_rfl) (of_decide_eq_true (by kernel_rfl)) k0 bel lt0) (trodAll_cons_mk (Below.trod laidOut (by kernel_rfl) (of_decide_eq_true (by kernel_rfl)) k1 bel lt1) (trodAll_cons_mk (Below.trod laidOut (by kernel_rfl) (of_decide_eq_true (by kernel_rfl)) k2 bel lt2) (trodAll_cons_mk (Below.trod laidOut (by kernel_rfl) (of_decide_eq_true (by kernel_rfl)) k3 bel lt3) trodAll_mk0)))), rfl, bel.frame _, fun h => by cases h⟩
theorem over : Rows.statEffectsRow.holds Try.pinned (OpenSpec.ofChange Rows.statEffectsSpec) :=
  OpenClaim.holds_of_wide 10 Try.f10 rfl rfl rfl rfl rfl rfl rfl ⟨rfl, rfl, rfl, rfl, rfl⟩ rfl rfl rfl rfl rfl (by kernel_rfl) Try.func10 (by kernel_rfl)
    (of_decide_eq_true (by kernel_rfl)) (by unfold Func.isWrapper; first | (rw [if_pos (by decide +kernel)]; kernel_rfl) | (rw [if_neg (by decide +kernel)]; exact ⟨rfl, rfl⟩))
    (fun os started H enc _ => lifted os started H enc)
theorem proved : Rows.StatEffectsSaid := over
#print axioms proved
end Go.Proofs.Ytbbpjjbgdemmpaa.statEffects
namespace Go.Proofs.Ytbbpjjbgdemmpaa
/-- The row, under a short name, for the claim. -/
theorem statEffects_holds : Rows.StatEffectsSaid := statEffects.proved
end Go.Proofs.Ytbbpjjbgdemmpaa
