/- scripts: Right, Paths, Floats. -/
import Derived.Test.YtnikcccobfcndaaYf
namespace Go.Proofs.Ytnikcccobfcndaa.Sc
open Go.RowKit FT Go.Proofs.YtnikcccobfcndaaW.PrintWords Go.Proofs.YtnikcccobfcndaaW.PrintLast Go.Proofs.YtnikcccobfcndaaW.PrintMore
set_option linter.unusedVariables false
set_option linter.unusedSimpArgs false
attribute [local go_sem] run_store_float'
def right (p c n : Int) : Bool := geo p && decide (1 ≤ n) && decide (n ≤ 8) && decide (8 ≤ c) && decide (c ≤ 256)
set_option maxHeartbeats 4000000 in
theorem right_calls (p c n : Int) (a b d : Nat) (w : World) : Calls Try.prog 17 #[.agg #[.int .i64 p, .int .i64 c, .int .i64 n, .float .f64 a, .float .f64 b, .float .f64 d]] w fun e w' => e = .returned (.bool (right p c n)) ∧ Below w.heap.size w w' := by
  obtain ⟨W0, hW0⟩ : ∃ W0, W0 = w.alloc (.cells #[.int .i64 p, .int .i64 c, .int .i64 n, .float .f64 a, .float .f64 b, .float .f64 d] 32) := ⟨_, rfl⟩
  have HW : Hid (Below w.heap.size w W0) := hid (by rw [hW0]; exact below_alloc (Below.refl _ _) _)
  have hblk : W0.heap[w.heap.size]? = some (.cells #[.int .i64 p, .int .i64 c, .int .i64 n, .float .f64 a, .float .f64 b, .float .f64 d] 32 (0, 0)) := by rw [hW0]; exact blk_new w _
  obtain ⟨g, hg⟩ : ∃ g, geo p = g := ⟨_, rfl⟩
  have Q31 : Hid (Calls Try.prog 31 #[.int .i64 p] W0 fun e w' => ∃ a b c' d f, e = .returned (.tuple #[.agg #[.int .i64 a, .int .i64 b, .int .i64 c', .int .i64 d, .int .i64 f], .bool g]) ∧ Hid (Below W0.heap.size W0 w') ∧ w'.cell? ⟨w.heap.size, 1, none⟩ = some (.int .i64 c) ∧ w'.cell? ⟨w.heap.size, 2, none⟩ = some (.int .i64 n) ∧ w.heap.size < w'.heap.size) := hid ((geom_calls p W0).mono (by
    rintro e w' ⟨a, b, c', d, f, h1, h2⟩
    have k1 := blk_keep hblk h2.out
    rw [hg] at h1
    exact ⟨a, b, c', d, f, h1, h2, by rw [cell_of_row w' _ _ _ _ _ k1]; rfl, by rw [cell_of_row w' _ _ _ _ _ k1]; rfl, (Array.getElem?_eq_some_iff.1 k1).1⟩))
  have HR : Hid (right p c n = (g && decide (1 ≤ n) && decide (n ≤ 8) && decide (8 ≤ c) && decide (c ≤ 256))) := hid (by rw [← hg]; rfl)
  clear hg hblk
  rw [hW0] at Q31
  have hk : g = false ∨ (g = true ∧ decide (1 ≤ n) = false) ∨ (g = true ∧ decide (1 ≤ n) = true ∧ decide (n ≤ 8) = false) ∨ (g = true ∧ decide (1 ≤ n) = true ∧ decide (n ≤ 8) = true ∧ decide (8 ≤ c) = false) ∨ (g = true ∧ decide (1 ≤ n) = true ∧ decide (n ≤ 8) = true ∧ decide (8 ≤ c) = true ∧ decide (c ≤ 256) = false) ∨ (g = true ∧ decide (1 ≤ n) = true ∧ decide (n ≤ 8) = true ∧ decide (8 ≤ c) = true ∧ decide (c ≤ 256) = true) := by
    cases g <;> cases decide (1 ≤ n) <;> cases decide (n ≤ 8) <;> cases decide (8 ≤ c) <;> cases decide (c ≤ 256) <;> simp
  rcases hk with rfl | ⟨rfl, b1⟩ | ⟨rfl, b1, b2⟩ | ⟨rfl, b1, b2, b3⟩ | ⟨rfl, b1, b2, b3, b4⟩ | ⟨rfl, b1, b2, b3, b4⟩
  all_goals
    go_enter Try.func17, Try.ntmps17
    go_wp2_with (first | (go_at_call 31; (with_reducible refine Q31.out.mono ?_); rintro e w3 ⟨u1, u2, u3, u4, u5, rfl, H3, k1, k2, k3⟩; have n3 : w.heap.size ≠ w3.heap.size := Nat.ne_of_lt k3; have n4 : w3.heap.size ≠ w.heap.size := Ne.symm n3))
    go_ret
    refine ⟨?_, ?_⟩
    · rw [HR.out]; simp [*]
    · have h4 := H3.out
      rw [← hW0] at h4
      exact L.bel HW.out (L.bel h4 (by repeat (first | exact Below.refl _ _ | refine below_drew ?_ | refine below_alloc ?_ _ | refine below_drewN ?_ _ | refine Below.setCell ?_ (by simp) _)))
def PT : Array Value := #[.string ⟨#[47]⟩, .string ⟨#[47, 97]⟩, .string ⟨#[47, 98]⟩, .string ⟨#[47, 99]⟩, .string ⟨#[47, 100]⟩, .string ⟨#[47, 100, 47, 97]⟩, .string ⟨#[47, 100, 47, 98]⟩, .string ⟨#[47, 100, 47, 101]⟩, .string ⟨#[47, 100, 47, 101, 47, 97]⟩, .string ⟨#[47, 97, 47, 98]⟩, .string ⟨#[]⟩, .string ⟨#[97]⟩, .string ⟨#[47, 46]⟩, .string ⟨#[47, 47, 99, 47]⟩, .string ⟨#[47, 102]⟩, .string ⟨#[47, 100, 47, 101, 47, 102]⟩]
set_option maxHeartbeats 4000000 in
set_option maxRecDepth 100000 in
theorem paths_calls (w : World) : Calls Try.prog 12 #[] w fun e w' => e = .returned (.agg PT) ∧ Below w.heap.size w w' := by
  have HB : Hid (Below w.heap.size w (w.alloc (.cells PT 39))) := hid (below_alloc (Below.refl _ _) _)
  go_enter Try.func12, Try.ntmps12
  go_wp2
  exact bodyPost_ret (v := .agg PT) (L.results_c Try.results12 _ _ w.heap.size 39 PT (0, 0) _ rfl (blk_new w _) Try.underlying39 rfl (by kernel_rfl)) rfl ⟨rfl, HB.out⟩
def FL (r : Nat) : Array Value := #[.float .f64 0, .float .f64 9223372036854775808, .float .f64 4607182418800017408, .float .f64 4602678819172646912, .float .f64 4598175219545276416, .float .f64 4611686018427387904, .float .f64 13830554455654793216, .float .f64 9218868437227405312, .float .f64 18442240474082181120, .float .f64 r, .float .f64 9094988921128908188, .float .f64 118622047889322841, .float .f64 4613937818241073152, .float .f64 4604930618986332160, .float .f64 4609434218613702656, .float .f64 4621819117588971520]
theorem N_draw (t : Nat) (x y : Nat) : N ((Question.nanBits .f64 x y).cut t) = true := by
  have h : (Question.nanBits .f64 x y).cut t = (t % 2) * 2 ^ 63 + 0x7ff0000000000000 + 1 + (t / 2) % (2 ^ 52 - 1) := rfl
  rw [h]
  obtain ⟨a, ha⟩ : ∃ a, t % 2 = a := ⟨_, rfl⟩
  obtain ⟨b, hb⟩ : ∃ b, (t / 2) % (2 ^ 52 - 1) = b := ⟨_, rfl⟩
  have ha2 : a < 2 := by omega
  have hb2 : b < 2 ^ 52 - 1 := by rw [← hb]; exact Nat.mod_lt _ (by decide)
  rw [ha, hb]
  obtain ⟨r, hr⟩ : ∃ r, a * 2 ^ 63 + 0x7ff0000000000000 + 1 + b = r := ⟨_, rfl⟩
  rw [hr]
  have h1 : 2047 * 2 ^ 52 < r % 2 ^ 63 := by omega
  unfold N Ieee.Format.read
  rw [lp, bin, inf, sw]
  dsimp only
  rw [if_neg (by omega), if_neg (by omega), if_neg (by omega)]
  rfl
def nv (W0 : World) : Nat := (Question.nanBits .f64 0 0).cut (W0.tape W0.drawn (.nanBits .f64 0 0))
theorem nan_run (W0 : World) : (binOp .quo 28 (.float .f64 0) (.float .f64 0)).run Try.prog W0 = .ok (.float .f64 (nv W0)) W0.drew := by
  have h' : FloatKind.f64.format.div 0 0 = none := by decide +kernel
  simp [binOp, Op.floatArith, h', Question.forced]
  rfl
set_option maxHeartbeats 4000000 in
set_option maxRecDepth 100000 in
theorem floats_calls (w : World) : Calls Try.prog 14 #[] w fun e w' => ∃ r, e = .returned (.agg (FL r)) ∧ N r = true ∧ Below w.heap.size w w' := by
  have q1 := fun W0 : World => run_float_arith (P := Try.prog) W0 .mul 28 .f64 13830554455654793216 0 9223372036854775808 (by decide +kernel)
  have q2 := fun W0 : World => run_float_arith (P := Try.prog) W0 .quo 28 .f64 4607182418800017408 0 9218868437227405312 (by decide +kernel)
  have q3 := fun W0 : World => run_float_arith (P := Try.prog) W0 .quo 28 .f64 13830554455654793216 0 18442240474082181120 (by decide +kernel)
  have q4 := nan_run
  have q5 : ∀ W0 : World, (Op.unary .neg (.float .f64 4607182418800017408)).run Try.prog W0 = .ok (.float .f64 13830554455654793216) W0 := fun W0 => by kernel_rfl
  go_enter Try.func14, Try.ntmps14
  go_wp2_with (first | ((with_reducible refine' wpList_store_row rfl 48 _ _ rfl w.heap.size _ ?hx ?hy 48 _ ?hg ?hi ?ho ?h1 ?_); (case hx => rfl); (case hy => rfl); (case hg => exact blk_new w _); (case hi => kernel_rfl); (case ho => rfl); (case h1 => simp [Value.oneCell'])))
  exact bodyPost_ret (v := .agg (FL _)) (L.results_c Try.results14 _ _ w.heap.size 48 (FL _) (0, 0) _ rfl (setRow_heap _ _ _ _ 48 (0, 0) (blk_new w _)) Try.underlying48 rfl (by kernel_rfl)) rfl ⟨_, rfl, N_draw _ _ _, by
    have h := below_drew (below_alloc (Below.refl w.heap.size w) (.cells #[.float .f64 0] 48))
    refine ⟨rfl, rfl, rfl, by simp, fun k hk => ?_⟩
    rw [setRow_other _ _ _ _ (by omega)]
    exact (below_drew (below_alloc (Below.refl w.heap.size w) _)).block k hk⟩
end Go.Proofs.Ytnikcccobfcndaa.Sc
