/- Floats: the document's class, order and bounds compute the same. -/
import Derived.Test.YtnikcccobfcndaaFb
import Derived.Test.YtnikcccobfcndaaFR
namespace Go.Proofs.Ytnikcccobfcndaa.Fl
open Go.RowKit FT Ieee
set_option linter.unusedVariables false
theorem G_u : (u (inf' - 1) : Int) = G := by decide +kernel
theorem G_big : G < big := by decide +kernel
theorem fin_G {x : Nat} (h : R x < inf') : -G ≤ W x ∧ W x ≤ G := by
  obtain ⟨_, h2⟩ := W_fin h
  have h3 : u (R x) ≤ u (inf' - 1) := u_le_iff.2 (by omega)
  have h4 := G_u
  rw [h2]; unfold sg
  split <;> omega
theorem other {x : Nat} (h : ¬ R x < inf') (hn : N x = false) : double.read x = .infinity (S x) := by
  unfold N at hn
  have hS := S_def x
  rw [hS]
  unfold Format.read at *
  rw [bin, inf, sw] at *
  dsimp only at *
  unfold R inf' at h
  rw [if_neg (by omega), if_neg h] at *
  by_cases k : x % 2 ^ 63 = 2047 * 2 ^ 52
  · rw [if_pos k]
  · rw [if_neg k] at hn; cases hn
theorem other_W {x : Nat} (h : ¬ R x < inf') (hn : N x = false) : W x = if S x then -big else big := by
  unfold W; rw [other h hn]; rfl
theorem half_inf {x : Nat} (h : ¬ R x < inf') (hn : N x = false) : floatBits .quo .f64 x two = some (infw (S x)) := by
  show double.div x two = _
  unfold Format.div
  rw [other h hn, two_read]
  unfold Datum.quotient
  dsimp only
  rw [Bool.xor_false]
  rfl
/-- The half of a float that is finite, and not nought, is another one. -/
theorem half_ne {x : Nat} (h : R x < inf') (h0 : W x ≠ 0) : ∃ b, floatBits .quo .f64 x two = some b ∧ N b = false ∧ W b ≠ W x := by
  obtain ⟨r, h1, h2, h3, h4⟩ := half h
  have hr : r < 2 ^ 63 := Nat.lt_trans h2 inf'_lt
  obtain ⟨k1, k2⟩ := R_word (S x) r hr
  have hw := W_fin (x := double.word (S x) r) (by rw [k1]; exact h2)
  refine ⟨_, h1, hw.1, ?_⟩
  have hx := (W_fin h).2
  rw [hw.2, k1, k2, hx]
  intro e
  have e2 : u r = u (R x) := by unfold sg at e; split at e <;> omega
  have e3 : r = R x := Nat.le_antisymm (u_le_iff.1 (by omega)) (u_le_iff.1 (by omega))
  rcases Nat.lt_or_ge (R x) 2 with h5 | h5
  · rcases Nat.eq_zero_or_pos (R x) with h6 | h6
    · rw [h6] at hx; rw [show u 0 = 0 from rfl] at hx; apply h0; rw [hx]; unfold sg; split <;> rfl
    · have h7 : R x = 1 := by omega
      have h8 : double.read x = .number (S x) 1 (-1074) := by
        have hS := S_def x
        rw [hS]
        unfold Format.read
        rw [lp, bin, inf, sw]; dsimp only
        unfold R at h7
        rw [h7, if_pos (by decide)]
      have h9 : double.div x two = some (double.word (S x) 0) := by
        unfold Format.div
        rw [h8, two_read]
        cases S x <;> decide +kernel
      have h10 : some (double.word (S x) r) = some (double.word (S x) 0) := h1.symm.trans h9
      have h11 := congrArg R (Option.some.inj h10)
      rw [k1, (R_word (S x) 0 (by decide)).1] at h11
      omega
  · -- the rung below is not less than the half
    have h6 : u (R x) ≤ u (R x - 1) * 2 := by
      obtain ⟨k, hk⟩ : ∃ k, R x = k + 2 := ⟨R x - 2, by omega⟩
      rw [hk]
      show u (k + 2) ≤ u (k + 1) * 2
      unfold u
      by_cases a : k + 2 < 2 ^ 52
      · rw [if_pos a, if_pos (by omega)]; omega
      rw [if_neg a]
      by_cases b : k + 1 < 2 ^ 52
      · rw [if_pos b, show k + 2 = 2 ^ 52 by omega]; omega
      rw [if_neg b]
      by_cases c : (k + 2) % 2 ^ 52 = 0
      · rw [show (k + 2) / 2 ^ 52 - 1 = ((k + 1) / 2 ^ 52 - 1) + 1 by omega, show (2 : Nat) ^ ((k + 1) / 2 ^ 52 - 1 + 1) = 2 ^ ((k + 1) / 2 ^ 52 - 1) * 2 from Nat.pow_succ _ _, c, ← Nat.mul_assoc]
        exact Nat.mul_le_mul_right _ (Nat.mul_le_mul_right _ (by omega))
      · rw [show (k + 2) / 2 ^ 52 - 1 = ((k + 1) / 2 ^ 52 - 1) by omega, Nat.mul_assoc, Nat.mul_comm _ 2, ← Nat.mul_assoc]
        exact Nat.mul_le_mul_right _ (by omega)
    have := h4 _ h6
    omega
theorem cmp_eq0 (x : Nat) : (FloatKind.f64.format.order x 0 == some .eq) = (!N x && decide (W x = 0)) := by rw [eq_W, zero_W.1, zero_W.2]; simp
theorem eq_self (x : Nat) : (FloatKind.f64.format.order x x == some .eq) = !N x := by rw [eq_W]; cases N x <;> simp
theorem inf_gt0 (s : Bool) : (FloatKind.f64.format.order (infw s) 0 == some .gt) = !s := by
  rw [cmp_gt0, (inf_W s).1, (inf_W s).2]
  have := big_pos
  cases s
  · simp; omega
  · simp; omega
set_option maxHeartbeats 4000000 in
theorem rclass_calls (x : Nat) (c : Int) (w : World) (h : cls x = c) : Calls Try.prog 20 #[.float .f64 x] w fun e w' => e = .returned (.int .i64 c) ∧ w = w' := by
  subst h
  have h1 := cmp_self x
  have h2 := cmp_eq0 x
  have h4 := cmp_lt0 x
  unfold cls
  by_cases k0 : N x = true
  · rw [if_pos k0]; rw [k0] at h1; clear h2 h4
    go_enter Try.func20, Try.ntmps20
    go_wp2
    go_ret
    exact ⟨rfl, rfl⟩
  rw [if_neg k0]
  replace k0 := Bool.eq_false_iff.mpr k0
  rw [k0] at h1 h2 h4
  rw [Bool.not_false, Bool.true_and] at h2 h4
  have hG := G_pos
  by_cases k1 : W x = 0
  · rw [if_neg (by omega), if_neg (by omega), if_neg (by omega), if_neg (by omega)]
    rw [decide_eq_true k1] at h2
    have hq := fun W0 : World => run_float_arith (P := Try.prog) W0 .quo 28 .f64 4607182418800017408 x _ (one_over k0 k1)
    have h6 := cmp_inf0 (S x)
    by_cases k5 : S x = true
    · rw [if_pos k5]; rw [k5] at h6 hq
      go_enter Try.func20, Try.ntmps20
      go_wp2
      go_ret
      exact ⟨rfl, rfl⟩
    · rw [if_neg k5]; replace k5 := Bool.eq_false_iff.mpr k5; rw [k5] at h6 hq
      go_enter Try.func20, Try.ntmps20
      go_wp2
      go_ret
      exact ⟨rfl, rfl⟩
  rw [decide_eq_false k1] at h2
  by_cases k2 : R x < inf'
  · have hg := fin_G k2
    obtain ⟨b, hb, hb1, hb2⟩ := half_ne k2 k1
    have hq := fun W0 : World => run_float_arith (P := Try.prog) W0 .quo 28 .f64 x 4611686018427387904 _ hb
    have h6 : (FloatKind.f64.format.order b x == some .eq) = false := by rw [eq_W, decide_eq_false hb2]; simp
    rw [if_neg (by omega), if_neg (by omega)]
    by_cases k3 : W x < 0
    · rw [if_pos k3]; rw [decide_eq_true k3] at h4
      go_enter Try.func20, Try.ntmps20
      go_wp2
      go_ret
      exact ⟨rfl, rfl⟩
    · rw [if_neg k3, if_pos (by omega)]; rw [decide_eq_false k3] at h4
      go_enter Try.func20, Try.ntmps20
      go_wp2
      go_ret
      exact ⟨rfl, rfl⟩
  · have hw := other_W k2 k0
    have hi := inf_W (S x)
    have hb := half_inf k2 k0
    have hq := fun W0 : World => run_float_arith (P := Try.prog) W0 .quo 28 .f64 x 4611686018427387904 _ hb
    have hG2 := G_big
    generalize infw (S x) = b at hi hb hq
    have h6 : (FloatKind.f64.format.order b x == some .eq) = true := by rw [eq_W, hi.1, hi.2, k0, hw]; simp
    by_cases k5 : S x = true
    · rw [k5, if_pos rfl] at hw
      rw [if_pos (by omega)]
      rw [decide_eq_true (show W x < 0 by omega)] at h4
      clear hi hb
      go_enter Try.func20, Try.ntmps20
      go_wp2
      go_ret
      exact ⟨rfl, rfl⟩
    · rw [if_neg k5] at hw
      rw [if_neg (by omega), if_pos (by omega)]
      rw [decide_eq_false (show ¬ W x < 0 by omega)] at h4
      clear hi hb
      go_enter Try.func20, Try.ntmps20
      go_wp2
      go_ret
      exact ⟨rfl, rfl⟩
theorem less_nan (x y : Nat) (h : N x = true ∨ N y = true) : less x y = (N x && !N y) := by
  unfold less
  have hx := kn x
  have hy := kn y
  have px : cls x = 0 ∨ 0 < cls x := by unfold cls; repeat' split
                                        all_goals decide
  have py : cls y = 0 ∨ 0 < cls y := by unfold cls; repeat' split
                                        all_goals decide
  cases hN : N x <;> cases hM : N y <;> simp [hN, hM] at hx hy h ⊢ <;> first | omega | (intro; omega)
theorem less_zero (x y : Nat) (nx : N x = false) (ny : N y = false) (hx : W x = 0) (hy : W y = 0) : less x y = (S x && !S y) := by
  have hG := G_pos
  have e : ∀ z, N z = false → W z = 0 → cls z = if S z = true then 3 else 4 := by
    intro z h1 h2
    unfold cls
    rw [if_neg (by rw [h1]; decide), if_neg (by omega), if_neg (by omega), if_neg (by omega), if_neg (by omega)]
  unfold less
  rw [e x nx hx, e y ny hy, nx, ny, hx, hy]
  cases S x <;> cases S y <;> decide
theorem less_val (x y : Nat) (nx : N x = false) (ny : N y = false) (h : ¬ (W x = 0 ∧ W y = 0)) : less x y = decide (W x < W y) := by
  have hG := G_pos
  unfold less cls
  rw [nx, ny]
  simp only [Bool.false_eq_true, if_false, Bool.not_false, Bool.and_self, Bool.true_and]
  rw [Bool.eq_iff_iff]
  split <;> split
  all_goals (try split)
  all_goals (try split)
  all_goals (try split)
  all_goals (try split)
  all_goals (try split)
  all_goals (try split)
  all_goals (try split)
  all_goals (try split)
  all_goals (simp only [decide_eq_true_eq] <;> omega)
set_option maxHeartbeats 4000000 in
theorem rless_calls (x y : Nat) (r : Bool) (w : World) (h : less x y = r) : Calls Try.prog 30 #[.float .f64 x, .float .f64 y] w fun e w' => e = .returned (.bool r) ∧ w = w' := by
  subst h
  have h1 := cmp_self x
  have h2 := cmp_self y
  have h3 := eq_self y
  by_cases k0 : N x = true ∨ N y = true
  · rw [less_nan x y k0]
    rcases hx : N x with _ | _ <;> rcases hy : N y with _ | _ <;> rw [hx] at h1 k0 <;> rw [hy] at h2 h3 k0
    · exact absurd k0 (by simp)
    all_goals
      clear k0
      go_enter Try.func30, Try.ntmps30
      go_wp2
      go_ret
      exact ⟨rfl, rfl⟩
  have nx : N x = false := by cases hn : N x <;> simp [hn] at k0 ⊢
  have ny : N y = false := by cases hn : N y <;> simp [hn] at k0 ⊢
  rw [nx] at h1; rw [ny] at h2
  have h4 := cmp_eq0 x
  have h5 := cmp_eq0 y
  rw [nx, Bool.not_false, Bool.true_and] at h4
  rw [ny, Bool.not_false, Bool.true_and] at h5
  by_cases k1 : W x = 0 ∧ W y = 0
  · rw [less_zero x y nx ny k1.1 k1.2]
    rw [decide_eq_true k1.1] at h4
    rw [decide_eq_true k1.2] at h5
    obtain ⟨p, hp⟩ : ∃ p, S x = p := ⟨_, rfl⟩
    obtain ⟨q, hq0⟩ : ∃ q, S y = q := ⟨_, rfl⟩
    rw [hp, hq0]
    have hq := fun W0 : World => run_float_arith (P := Try.prog) W0 .quo 28 .f64 4607182418800017408 x (infw p) (by rw [← hp]; exact one_over nx k1.1)
    have hq2 := fun W0 : World => run_float_arith (P := Try.prog) W0 .quo 28 .f64 4607182418800017408 y (infw q) (by rw [← hq0]; exact one_over ny k1.2)
    have h6 := cmp_inf0 p
    have h7 := inf_gt0 q
    clear hp hq0
    cases p <;> cases q
    all_goals
      go_enter Try.func30, Try.ntmps30
      go_wp2
      go_ret
      exact ⟨rfl, rfl⟩
  · rw [less_val x y nx ny k1]
    have h6 := lt_W x y
    rw [nx, ny, Bool.not_false, Bool.true_and, Bool.true_and] at h6
    by_cases k2 : W x = 0
    · have k3 : W y ≠ 0 := fun e => k1 ⟨k2, e⟩
      rw [decide_eq_true k2] at h4
      rw [decide_eq_false k3] at h5
      clear k1 k3 k2
      go_enter Try.func30, Try.ntmps30
      go_wp2
      go_ret
      exact ⟨rfl, rfl⟩
    · rw [decide_eq_false k2] at h4
      go_enter Try.func30, Try.ntmps30
      go_wp2
      go_ret
      exact ⟨rfl, rfl⟩
set_option maxHeartbeats 2000000 in
theorem rsame_calls (x y : Nat) (r : Bool) (w : World) (h : same x y = r) : Calls Try.prog 16 #[.float .f64 x, .float .f64 y] w fun e w' => e = .returned (.bool r) ∧ w = w' := by
  subst h
  unfold same
  obtain ⟨a, ha⟩ : ∃ a, less x y = a := ⟨_, rfl⟩
  obtain ⟨b, hb⟩ : ∃ b, less y x = b := ⟨_, rfl⟩
  rw [ha, hb]
  cases a
  · go_enter Try.func16, Try.ntmps16
    go_wp2_with (first | (go_at_call 30; with_reducible refine (rless_calls x y _ _ ha).mono ?_; rintro e w1 ⟨rfl, rfl⟩) | (go_at_call 30; with_reducible refine (rless_calls y x _ _ hb).mono ?_; rintro e w1 ⟨rfl, rfl⟩))
    go_ret
    exact ⟨L.ret_bool (by simp), rfl⟩
  · go_enter Try.func16, Try.ntmps16
    go_wp2_with (first | (go_at_call 30; with_reducible refine (rless_calls x y _ _ ha).mono ?_; rintro e w1 ⟨rfl, rfl⟩) | (go_at_call 30; with_reducible refine (rless_calls y x _ _ hb).mono ?_; rintro e w1 ⟨rfl, rfl⟩))
    go_ret
    exact ⟨L.ret_bool (by simp), rfl⟩
end Go.Proofs.Ytnikcccobfcndaa.Fl
