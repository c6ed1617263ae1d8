/- The law UsageDoes: for every input the call returns true and each argument reads afterwards as before. No condition. The row's proof, out of the walk walkUsageDoes; written by a program of this session. -/
import Derived.Test.YtbdehbaiihlacaaRows
import Derived.Test.YtbdehbaiihlacaaWalkUsageDoes
import Derived.Test.YtbdehbaiihlacaaO
import Derived.WalkKit
import Derived.ProofKit
import Derived.OpenShut
import Derived.ShutString
import Derived.ChangeOld
import Derived.Below
import Derived.SizedLaws
namespace Go.Proofs.Ytbdehbaiihlacaa.usageDoes
open Go.ChangeShapes Go.WideShapes Go.ChangeAt Go.RowKit Go.Proofs.YtbdehbaiihlacaaW.PrintWords
open Go.ChangeMaps (open_string shut_string)
open Go.Proofs.Ytbdehbaiihlacaa.PUsageDoes
open Go.Proofs.Ytbdehbaiihlacaa.PUsageDoes
set_option linter.unusedVariables false
theorem own : ownKnob Try.prog.godebug = none := by kernel_rfl
theorem laidOut : laidOutB Try.prog = true := by kernel_rfl
theorem op29 : O.Opens Try.prog 29 k29 G29 := O.opens_weak (O.opens_struct Try.underlying29 (by kernel_rfl) (O.opens_more rfl (by kernel_rfl) (O.opens_string Try.underlying9) (O.opens_more rfl (by kernel_rfl) (O.opens_int Try.underlying3) (O.opens_more rfl (by kernel_rfl) (O.opens_int Try.underlying3) (O.opens_more rfl (by kernel_rfl) (O.opens_int Try.underlying3) (O.opens_one rfl (by kernel_rfl) (O.opens_slice Try.underlying27 (by kernel_rfl) (O.opens_int Try.underlying5))))))) (fun x : S29 => (x.f0, x.f1, x.f2, x.f3, x.f4)) (fun p => (⟨p.1, p.2.1, p.2.2.1, p.2.2.2.1, p.2.2.2.2⟩ : S29)) (fun _ => rfl)) (fun _ h => h)
theorem op31 : O.Opens Try.prog 31 k31 G31 := O.opens_weak (O.opens_struct Try.underlying31 (by kernel_rfl) (O.opens_more rfl (by kernel_rfl) (O.opens_string Try.underlying9) (O.opens_more rfl (by kernel_rfl) (O.opens_int Try.underlying3) (O.opens_more rfl (by kernel_rfl) (O.opens_int Try.underlying3) (O.opens_one rfl (by kernel_rfl) (O.opens_int Try.underlying3))))) (fun x : S31 => (x.f0, x.f1, x.f2, x.f3)) (fun p => (⟨p.1, p.2.1, p.2.2.1, p.2.2.2⟩ : S31)) (fun _ => rfl)) (fun _ h => h)
set_option maxRecDepth 100000 in
theorem lifted (os : Os) (started : os.Started) (H : Type) (enc : TypeId × Value → H) :
    ReturnsInHanded {} Try.checked os 3 .any (Rows.usageDoesSpec.pre6 enc Try.prog Try.f3 Rows.usageDoesRow.domain false) (Rows.usageDoesSpec.post enc Try.prog Try.f3 false true false false) := by
  refine returnsInHanded_of_change_sized (C := Try.checked) own started (by kernel_rfl) Try.func3
    (ChangeSpec.witness6 (enc := enc) (C := Try.checked) false ⟨#[], #[.slice none 0 0, .string ByteArray.empty, .string ByteArray.empty, .slice none 0 0], []⟩ 8 (by kernel_rfl) (by kernel_rfl) (by kernel_rfl) (by kernel_rfl)) ?_
  intro W base args ds gs before hval0 hW hcnd hsz0 _
  have hsz : (DataW.weightsEach Try.prog (Try.f3.params.toList ++ Rows.usageDoesSpec.plain.varTypes Try.prog) (ds ++ gs)).all (· ≤ reachBytes) = true := hsz0
  have hval : ∀ (j : Nat) t v, Try.f3.params[j]? = some t → args[j]? = some v → Value.okWide Try.prog W .any base t v := hval0
  have hW' := hW
  obtain ⟨p, q, hA0, hV, rfl, hfz, hnd⟩ := hW
  have hA : DataW.TrodAll enc Try.prog W 0 (fun _ => true) true Try.f3.params.toList args.toList ds p := hA0
  rw [Try.params3] at hA hval hsz
  obtain ⟨v0, vs0, d0, ds0, p0, q0, hargs, rfl, rfl, h0, r0⟩ := trodAll_cons hA
  obtain ⟨v1, vs1, d1, ds1, p1, q1, rfl, rfl, rfl, h1, r1⟩ := trodAll_cons r0
  obtain ⟨v2, vs2, d2, ds2, p2, q2, rfl, rfl, rfl, h2, r2⟩ := trodAll_cons r1
  obtain ⟨v3, vs3, d3, ds3, p3, q3, rfl, rfl, rfl, h3, r3⟩ := trodAll_cons r2
  obtain ⟨rfl, rfl, rfl⟩ := trodAll_nil r3
  obtain rfl : args = #[v0, v1, v2, v3] := by cases args; simp_all
  obtain ⟨rfl, rfl⟩ := trodVars_none hV
  have k0 := h0
  have lt0 : ∀ x ∈ p0, x.block < W.heap.size := by obtain ⟨m, hm⟩ := k0; exact DataW.trod_lt m _ _ _ hm
  have e0 := okWide_slice Try.underlying22 (hval 0 22 v0 rfl rfl)
  obtain ⟨A0, c0, l0, rfl, hl0, hr0, g0⟩ := O.open_arg_slice (k := k29) (O.opens_slice Try.underlying22 (by kernel_rfl) op29) h0 (by obtain ⟨_, _, _, rfl⟩ := e0; rfl) e0
  have y0 : l0.length * 64 ≤ 140737488351232 := O.sized_any hsz (j := 0) (t := 22) rfl rfl Try.underlying22 (by kernel_rfl) h0
  obtain ⟨a1, rfl, rfl, rfl, y1⟩ := open_string Try.underlying9 (hval 1 9 v1 rfl rfl) h1
  have w1 : a1.size ≤ 140737488351232 := by
    have z := sized_string hsz (j := 1) (t := 9) rfl rfl
    rw [Array.length_toList] at z
    exact z
  obtain ⟨a2, rfl, rfl, rfl, y2⟩ := open_string Try.underlying9 (hval 2 9 v2 rfl rfl) h2
  have w2 : a2.size ≤ 140737488351232 := by
    have z := sized_string hsz (j := 2) (t := 9) rfl rfl
    rw [Array.length_toList] at z
    exact z
  have k3 := h3
  have lt3 : ∀ x ∈ p3, x.block < W.heap.size := by obtain ⟨m, hm⟩ := k3; exact DataW.trod_lt m _ _ _ hm
  have e3 := okWide_slice Try.underlying23 (hval 3 23 v3 rfl rfl)
  obtain ⟨A3, c3, l3, rfl, hl3, hr3, g3⟩ := O.open_arg_slice (k := k31) (O.opens_slice Try.underlying23 (by kernel_rfl) op31) h3 (by obtain ⟨_, _, _, rfl⟩ := e3; rfl) e3
  have y3 : l3.length * 40 ≤ 140737488351232 := O.sized_any hsz (j := 3) (t := 23) rfl rfl Try.underlying23 (by kernel_rfl) h3
  clear hA0 hval0 hsz0 hsz
  refine (walkUsageDoes A0 c0 l0 a1 a2 A3 c3 l3 W hl0 hr0 g0 y0 w1 w2 hl3 hr3 g3 y3).mono fun e W' ⟨he, bel⟩ => ?_
  subst he
  exact ⟨_, rfl, _, _, _, [], _, [], hW', trodAll_mk1 (shut_bool Try.underlying4 _), (trodAll_cons_mk (Below.trod laidOut (by kernel_rfl) (of_decide_eq_true (by kernel_rfl)) k0 bel lt0) (trodAll_cons_mk (shut_string Try.underlying9 y1) (trodAll_cons_mk (shut_string Try.underlying9 y2) (trodAll_cons_mk (Below.trod laidOut (by kernel_rfl) (of_decide_eq_true (by kernel_rfl)) k3 bel lt3) trodAll_mk0)))), rfl, bel.frame _, fun h => by cases h⟩
theorem over : Rows.usageDoesRow.holds Try.pinned (OpenSpec.ofChange Rows.usageDoesSpec) :=
  OpenClaim.holds_of_wide 3 Try.f3 rfl rfl rfl rfl rfl rfl rfl ⟨rfl, rfl, rfl, rfl, rfl⟩ rfl rfl rfl rfl rfl (by kernel_rfl) Try.func3 (by kernel_rfl)
    (of_decide_eq_true (by kernel_rfl)) (by unfold Func.isWrapper; first | (rw [if_pos (by decide +kernel)]; kernel_rfl) | (rw [if_neg (by decide +kernel)]; exact ⟨rfl, rfl⟩))
    (fun os started H enc _ => lifted os started H enc)
theorem proved : Rows.UsageDoesSaid := over
#print axioms proved
end Go.Proofs.Ytbdehbaiihlacaa.usageDoes
namespace Go.Proofs.Ytbdehbaiihlacaa
/-- The row, under a short name, for the claim. -/
theorem usageDoes_holds : Rows.UsageDoesSaid := usageDoes.proved
end Go.Proofs.Ytbdehbaiihlacaa
