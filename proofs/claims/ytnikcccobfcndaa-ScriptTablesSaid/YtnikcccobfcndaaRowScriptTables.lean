/- The law ScriptTables: for every input the call returns true and each argument reads afterwards as before. No condition. The row's proof, out of the walk Sc.walkScriptTables; written by a program of this session. -/
import Derived.Test.YtnikcccobfcndaaRows
import Derived.Test.YtnikcccobfcndaaYk
import Derived.Test.YtnikcccobfcndaaYk
import Derived.Test.YtnikcccobfcndaaO
import Derived.WalkKit
import Derived.ProofKit
import Derived.OpenShut
import Derived.ShutString
import Derived.ChangeOld
import Derived.Below
import Derived.SizedLaws
namespace Go.Proofs.Ytnikcccobfcndaa.scriptTables
open Go.ChangeShapes Go.WideShapes Go.ChangeAt Go.RowKit Go.Proofs.YtnikcccobfcndaaW.PrintWords
open Go.ChangeMaps (open_string shut_string)
open Go.Proofs.Ytnikcccobfcndaa.Sc
open Go.Proofs.Ytnikcccobfcndaa.Sc
set_option linter.unusedVariables false
theorem own : ownKnob Try.prog.godebug = none := by kernel_rfl
theorem laidOut : laidOutB Try.prog = true := by kernel_rfl
theorem op30 : O.Opens Try.prog 30 k30 G30 := O.opens_weak (O.opens_struct Try.underlying30 (by kernel_rfl) (O.opens_more rfl (by kernel_rfl) (FK.opens_float Try.underlying28) (O.opens_more rfl (by kernel_rfl) (FK.opens_float Try.underlying28) (O.opens_one rfl (by kernel_rfl) (FK.opens_float Try.underlying28)))) (fun x : S30 => (x.f0, x.f1, x.f2)) (fun p => (⟨p.1, p.2.1, p.2.2⟩ : S30)) (fun _ => rfl)) (fun _ h => h)
theorem op32 : O.Opens Try.prog 32 k32 G32 := O.opens_weak (O.opens_struct Try.underlying32 (by kernel_rfl) (O.opens_more rfl (by kernel_rfl) (O.opens_int Try.underlying3) (O.opens_more rfl (by kernel_rfl) (O.opens_int Try.underlying3) (O.opens_more rfl (by kernel_rfl) (O.opens_int Try.underlying3) (O.opens_one rfl (by kernel_rfl) op30)))) (fun x : S32 => (x.f0, x.f1, x.f2, x.f3)) (fun p => (⟨p.1, p.2.1, p.2.2.1, p.2.2.2⟩ : S32)) (fun _ => rfl)) (fun _ h => h)
theorem op42 : O.Opens Try.prog 42 k42 G42 := O.opens_weak (O.opens_struct Try.underlying42 (by kernel_rfl) (O.opens_more rfl (by kernel_rfl) (O.opens_int Try.underlying3) (O.opens_more rfl (by kernel_rfl) (O.opens_int Try.underlying3) (O.opens_more rfl (by kernel_rfl) (O.opens_int Try.underlying3) (O.opens_more rfl (by kernel_rfl) (O.opens_int Try.underlying3) (O.opens_more rfl (by kernel_rfl) (O.opens_int Try.underlying3) (O.opens_more rfl (by kernel_rfl) (O.opens_string Try.underlying9) (O.opens_more rfl (by kernel_rfl) (O.opens_string Try.underlying9) (O.opens_one rfl (by kernel_rfl) (O.opens_slice Try.underlying26 (by kernel_rfl) (O.opens_int Try.underlying5)))))))))) (fun x : S42 => (x.f0, x.f1, x.f2, x.f3, x.f4, x.f5, x.f6, x.f7)) (fun p => (⟨p.1, p.2.1, p.2.2.1, p.2.2.2.1, p.2.2.2.2.1, p.2.2.2.2.2.1, p.2.2.2.2.2.2.1, p.2.2.2.2.2.2.2⟩ : S42)) (fun _ => rfl)) (fun _ h => h)
theorem op46 : O.Opens Try.prog 46 k46 G46 := O.opens_weak (O.opens_struct Try.underlying46 (by kernel_rfl) (O.opens_more rfl (by kernel_rfl) (O.opens_int Try.underlying3) (O.opens_more rfl (by kernel_rfl) (O.opens_int Try.underlying3) (O.opens_one rfl (by kernel_rfl) (O.opens_slice Try.underlying44 (by kernel_rfl) (O.opens_bool Try.underlying4))))) (fun x : S46 => (x.f0, x.f1, x.f2)) (fun p => (⟨p.1, p.2.1, p.2.2⟩ : S46)) (fun _ => rfl)) (fun _ h => h)
theorem op36 : O.Opens Try.prog 36 k36 G36 := O.opens_weak (O.opens_struct Try.underlying36 (by kernel_rfl) (O.opens_more rfl (by kernel_rfl) op32 (O.opens_more rfl (by kernel_rfl) (O.opens_slice Try.underlying33 (by kernel_rfl) (O.opens_slice Try.underlying38 (by kernel_rfl) op42)) (O.opens_one rfl (by kernel_rfl) (O.opens_slice Try.underlying34 (by kernel_rfl) op46)))) (fun x : S36 => (x.f0, x.f1, x.f2)) (fun p => (⟨p.1, p.2.1, p.2.2⟩ : S36)) (fun _ => rfl)) (fun _ h => h)
set_option maxRecDepth 100000 in
theorem lifted (os : Os) (started : os.Started) (H : Type) (enc : TypeId × Value → H) :
    ReturnsInHanded {} Try.checked os 6 .any (Rows.scriptTablesSpec.pre6 enc Try.prog Try.f6 Rows.scriptTablesRow.domain false) (Rows.scriptTablesSpec.post enc Try.prog Try.f6 false true false false) := by
  refine returnsInHanded_of_change_sized (C := Try.checked) own started (by kernel_rfl) Try.func6
    (ChangeSpec.witness6 (enc := enc) (C := Try.checked) false ⟨#[], #[.agg #[.int .i64 0, .int .i64 0, .int .i64 0, .float .f64 0, .float .f64 0, .float .f64 0], .agg #[.int .i64 0, .int .i64 0, .int .i64 0, .float .f64 0, .float .f64 0, .float .f64 0, .slice none 0 0, .slice none 0 0], .agg #[.int .i64 0, .int .i64 0, .int .i64 0, .float .f64 0, .float .f64 0, .float .f64 0, .slice none 0 0, .slice none 0 0]], []⟩ 8 (by kernel_rfl) (by kernel_rfl) (by kernel_rfl) (by kernel_rfl)) ?_
  intro W base args ds gs before hval0 hW hcnd hsz0 _
  have hsz : (DataW.weightsEach Try.prog (Try.f6.params.toList ++ Rows.scriptTablesSpec.plain.varTypes Try.prog) (ds ++ gs)).all (· ≤ reachBytes) = true := hsz0
  have hval : ∀ (j : Nat) t v, Try.f6.params[j]? = some t → args[j]? = some v → Value.okWide Try.prog W .any base t v := hval0
  have hW' := hW
  obtain ⟨p, q, hA0, hV, rfl, hfz, hnd⟩ := hW
  have hA : DataW.TrodAll enc Try.prog W 0 (fun _ => true) true Try.f6.params.toList args.toList ds p := hA0
  rw [Try.params6] at hA hval hsz
  obtain ⟨v0, vs0, d0, ds0, p0, q0, hargs, rfl, rfl, h0, r0⟩ := trodAll_cons hA
  obtain ⟨v1, vs1, d1, ds1, p1, q1, rfl, rfl, rfl, h1, r1⟩ := trodAll_cons r0
  obtain ⟨v2, vs2, d2, ds2, p2, q2, rfl, rfl, rfl, h2, r2⟩ := trodAll_cons r1
  obtain ⟨rfl, rfl, rfl⟩ := trodAll_nil r2
  obtain rfl : args = #[v0, v1, v2] := by cases args; simp_all
  obtain ⟨rfl, rfl⟩ := trodVars_none hV
  have k0 := h0
  have lt0 : ∀ x ∈ p0, x.block < W.heap.size := by obtain ⟨m, hm⟩ := k0; exact DataW.trod_lt m _ _ _ hm
  obtain ⟨x0, cs0, rfl, K0, g0⟩ := O.open_arg_agg op32 h0 (O.okWide_agg Try.underlying32 (hval 0 32 v0 rfl rfl))
  have k1 := h1
  have lt1 : ∀ x ∈ p1, x.block < W.heap.size := by obtain ⟨m, hm⟩ := k1; exact DataW.trod_lt m _ _ _ hm
  obtain ⟨x1, cs1, rfl, K1, g1⟩ := O.open_arg_agg op36 h1 (O.okWide_agg Try.underlying36 (hval 1 36 v1 rfl rfl))
  have k2 := h2
  have lt2 : ∀ x ∈ p2, x.block < W.heap.size := by obtain ⟨m, hm⟩ := k2; exact DataW.trod_lt m _ _ _ hm
  obtain ⟨x2, cs2, rfl, K2, g2⟩ := O.open_arg_agg op36 h2 (O.okWide_agg Try.underlying36 (hval 2 36 v2 rfl rfl))
  clear hA0 hval0 hsz0 hsz
  refine (Sc.walkScriptTables x0 cs0 x1 cs1 x2 cs2 W K0 g0 K1 g1 K2 g2).mono fun e W' ⟨he, bel⟩ => ?_
  subst he
  exact ⟨_, rfl, _, _, _, [], _, [], hW', trodAll_mk1 (shut_bool Try.underlying4 _), (trodAll_cons_mk (Below.trod laidOut (by kernel_rfl) (of_decide_eq_true (by kernel_rfl)) k0 bel lt0) (trodAll_cons_mk (Below.trod laidOut (by kernel_rfl) (of_decide_eq_true (by kernel_rfl)) k1 bel lt1) (trodAll_cons_mk (Below.trod laidOut (by kernel_rfl) (of_decide_eq_true (by kernel_rfl)) k2 bel lt2) trodAll_mk0))), rfl, bel.frame _, fun h => by cases h⟩
theorem over : Rows.scriptTablesRow.holds Try.pinned (OpenSpec.ofChange Rows.scriptTablesSpec) :=
  OpenClaim.holds_of_wide 6 Try.f6 rfl rfl rfl rfl rfl rfl rfl ⟨rfl, rfl, rfl, rfl, rfl⟩ rfl rfl rfl rfl rfl (by kernel_rfl) Try.func6 (by kernel_rfl)
    (of_decide_eq_true (by kernel_rfl)) (by unfold Func.isWrapper; first | (rw [if_pos (by decide +kernel)]; kernel_rfl) | (rw [if_neg (by decide +kernel)]; exact ⟨rfl, rfl⟩))
    (fun os started H enc _ => lifted os started H enc)
theorem proved : Rows.ScriptTablesSaid := over
#print axioms proved
end Go.Proofs.Ytnikcccobfcndaa.scriptTables
namespace Go.Proofs.Ytnikcccobfcndaa
/-- The row, under a short name, for the claim. -/
theorem scriptTables_holds : Rows.ScriptTablesSaid := scriptTables.proved
end Go.Proofs.Ytnikcccobfcndaa
