/- Floats: what Class, Less, Same and awake compute. -/
import Derived.Test.YtnikcccobfcndaaRows
import Derived.Test.YtnikcccobfcndaaFT
import Derived.Test.YtnikcccobfcndaaL
namespace Go.Proofs.Ytnikcccobfcndaa.Fl
open Go.RowKit FT
set_option linter.unusedVariables false
def G : Int := (2 ^ 53 - 1) * 2 ^ 2045
theorem hi_W : N 9218868437227405311 = false ∧ W 9218868437227405311 = G := by decide +kernel
theorem lo_W : N 18442240474082181119 = false ∧ W 18442240474082181119 = -G := by decide +kernel
theorem zero_W : N 0 = false ∧ W 0 = 0 := by decide +kernel
theorem G_pos : 0 < G := by decide +kernel
/-- The class of a float. -/
def cls (x : Nat) : Int := if N x = true then 0 else if W x < -G then 1 else if G < W x then 6 else if W x < 0 then 2 else if 0 < W x then 5 else if S x = true then 3 else 4
theorem cmp_self (x : Nat) : (FloatKind.f64.format.order x x != some .eq) = N x := by rw [ne_W]; cases N x <;> simp
theorem cmp_lo (x : Nat) : (FloatKind.f64.format.order x 18442240474082181119 == some .lt) = (!N x && decide (W x < -G)) := by rw [lt_W, lo_W.1, lo_W.2]; simp
theorem cmp_hi (x : Nat) : (FloatKind.f64.format.order x 9218868437227405311 == some .gt) = (!N x && decide (G < W x)) := by rw [gt_W, hi_W.1, hi_W.2]; simp
theorem cmp_lt0 (x : Nat) : (FloatKind.f64.format.order x 0 == some .lt) = (!N x && decide (W x < 0)) := by rw [lt_W, zero_W.1, zero_W.2]; simp
theorem cmp_gt0 (x : Nat) : (FloatKind.f64.format.order x 0 == some .gt) = (!N x && decide (0 < W x)) := by rw [gt_W, zero_W.1, zero_W.2]; simp
theorem cmp_inf0 (s : Bool) : (FloatKind.f64.format.order (infw s) 0 == some .lt) = s := by
  rw [cmp_lt0, (inf_W s).1, (inf_W s).2]
  have := big_pos
  cases s
  · simp; omega
  · simp; omega
set_option maxHeartbeats 2000000 in
theorem class_calls (x : Nat) (c : Int) (w : World) (h : cls x = c) : Calls Try.prog 56 #[.float .f64 x] w fun e w' => e = .returned (.int .i64 c) ∧ w = w' := by
  subst h
  have h1 := cmp_self x
  have h2 := cmp_lo x
  have h3 := cmp_hi x
  have h4 := cmp_lt0 x
  have h5 := cmp_gt0 x
  unfold cls
  by_cases k0 : N x = true
  · rw [if_pos k0]; rw [k0] at h1; clear h2 h3 h4 h5
    go_enter Try.func56, Try.ntmps56
    go_wp2
    go_ret
    exact ⟨rfl, rfl⟩
  rw [if_neg k0]
  replace k0 := Bool.eq_false_iff.mpr k0
  rw [k0] at h1 h2 h3 h4 h5
  rw [Bool.not_false, Bool.true_and] at h2 h3 h4 h5
  by_cases k1 : W x < -G
  · rw [if_pos k1]; rw [decide_eq_true k1] at h2; clear h3 h4 h5
    go_enter Try.func56, Try.ntmps56
    go_wp2
    go_ret
    exact ⟨rfl, rfl⟩
  rw [if_neg k1]; rw [decide_eq_false k1] at h2
  by_cases k2 : G < W x
  · rw [if_pos k2]; rw [decide_eq_true k2] at h3; clear h4 h5
    go_enter Try.func56, Try.ntmps56
    go_wp2
    go_ret
    exact ⟨rfl, rfl⟩
  rw [if_neg k2]; rw [decide_eq_false k2] at h3
  by_cases k3 : W x < 0
  · rw [if_pos k3]; rw [decide_eq_true k3] at h4; clear h5
    go_enter Try.func56, Try.ntmps56
    go_wp2
    go_ret
    exact ⟨rfl, rfl⟩
  rw [if_neg k3]; rw [decide_eq_false k3] at h4
  by_cases k4 : 0 < W x
  · rw [if_pos k4]; rw [decide_eq_true k4] at h5
    go_enter Try.func56, Try.ntmps56
    go_wp2
    go_ret
    exact ⟨rfl, rfl⟩
  rw [if_neg k4]; rw [decide_eq_false k4] at h5
  have hq := fun W0 : World => run_float_arith (P := Try.prog) W0 .quo 28 .f64 4607182418800017408 x _ (one_over k0 (by omega))
  have h6 := cmp_inf0 (S x)
  by_cases k5 : S x = true
  · rw [if_pos k5]; rw [k5] at h6 hq
    go_enter Try.func56, Try.ntmps56
    go_wp2
    go_ret
    exact ⟨rfl, rfl⟩
  · rw [if_neg k5]; replace k5 := Bool.eq_false_iff.mpr k5; rw [k5] at h6 hq
    go_enter Try.func56, Try.ntmps56
    go_wp2
    go_ret
    exact ⟨rfl, rfl⟩
/-- x is less than y. -/
def less (x y : Nat) : Bool := if cls x = cls y then !N x && !N y && decide (W x < W y) else decide (cls x < cls y)
def same (x y : Nat) : Bool := !less x y && !less y x
set_option maxHeartbeats 2000000 in
theorem less_calls (x y : Nat) (r : Bool) (w : World) (h : less x y = r) : Calls Try.prog 50 #[.float .f64 x, .float .f64 y] w fun e w' => e = .returned (.bool r) ∧ w = w' := by
  subst h
  obtain ⟨a, ha⟩ : ∃ a, cls x = a := ⟨_, rfl⟩
  obtain ⟨b, hb⟩ : ∃ b, cls y = b := ⟨_, rfl⟩
  unfold less
  rw [ha, hb]
  have h1 := lt_W x y
  by_cases k : a = b
  · subst k
    rw [if_pos rfl]
    go_enter Try.func50, Try.ntmps50
    go_wp2_with (first | (go_at_call 56; with_reducible refine (class_calls x a _ ha).mono ?_; rintro e w1 ⟨rfl, rfl⟩) | (go_at_call 56; with_reducible refine (class_calls y a _ hb).mono ?_; rintro e w1 ⟨rfl, rfl⟩))
    go_ret
    exact ⟨rfl, rfl⟩
  · rw [if_neg k]
    have h2 : (a != b) = true := bne_iff_ne.mpr k
    go_enter Try.func50, Try.ntmps50
    go_wp2_with (first | (go_at_call 56; with_reducible refine (class_calls x a _ ha).mono ?_; rintro e w1 ⟨rfl, rfl⟩) | (go_at_call 56; with_reducible refine (class_calls y b _ hb).mono ?_; rintro e w1 ⟨rfl, rfl⟩))
    go_ret
    exact ⟨rfl, rfl⟩
set_option maxHeartbeats 2000000 in
theorem same_calls (x y : Nat) (r : Bool) (w : World) (h : same x y = r) : Calls Try.prog 44 #[.float .f64 x, .float .f64 y] w fun e w' => e = .returned (.bool r) ∧ w = w' := by
  subst h
  unfold same
  obtain ⟨a, ha⟩ : ∃ a, less x y = a := ⟨_, rfl⟩
  obtain ⟨b, hb⟩ : ∃ b, less y x = b := ⟨_, rfl⟩
  rw [ha, hb]
  cases a
  · go_enter Try.func44, Try.ntmps44
    go_wp2_with (first | (go_at_call 50; with_reducible refine (less_calls x y _ _ ha).mono ?_; rintro e w1 ⟨rfl, rfl⟩) | (go_at_call 50; with_reducible refine (less_calls y x _ _ hb).mono ?_; rintro e w1 ⟨rfl, rfl⟩))
    go_ret
    exact ⟨L.ret_bool (by simp), rfl⟩
  · go_enter Try.func44, Try.ntmps44
    go_wp2_with (first | (go_at_call 50; with_reducible refine (less_calls x y _ _ ha).mono ?_; rintro e w1 ⟨rfl, rfl⟩) | (go_at_call 50; with_reducible refine (less_calls y x _ _ hb).mono ?_; rintro e w1 ⟨rfl, rfl⟩))
    go_ret
    exact ⟨L.ret_bool (by simp), rfl⟩
end Go.Proofs.Ytnikcccobfcndaa.Fl
