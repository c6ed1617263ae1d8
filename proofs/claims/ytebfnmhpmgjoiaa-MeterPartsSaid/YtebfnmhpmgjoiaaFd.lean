/- FloatMid: sums, halves and the middle of two finite floats. -/
import Derived.Test.YtebfnmhpmgjoiaaFc
namespace Go.Proofs.Ytebfnmhpmgjoiaa.Fl
open Go.RowKit FT Ieee
set_option linter.unusedVariables false
theorem sum_comm (d e : Datum) : d.sum e = e.sum d := by
  cases d with
  | nan _ _ => cases e <;> rfl
  | infinity s => cases e with
    | nan _ _ => rfl
    | infinity t => cases s <;> cases t <;> rfl
    | number _ _ _ => rfl
  | number s m p => cases e with
    | nan _ _ => rfl
    | infinity t => rfl
    | number t n q =>
      unfold Datum.sum
      dsimp only
      rw [Int.min_comm p q, Int.add_comm (signed s m _), Bool.and_comm s t]
theorem add_comm' (a b : Nat) : floatBits .add .f64 a b = floatBits .add .f64 b a := by
  show double.add a b = double.add b a
  unfold Format.add
  rw [sum_comm]
/-- What a sum of two finite words is. -/
theorem add_spec {a b : Nat} (ha : R a < inf') (hb : R b < inf') : ∃ s r, floatBits .add .f64 a b = some (double.word s (min r inf')) ∧
    (W a + W b ≠ 0 → s = decide (W a + W b < 0)) ∧ (∀ q, u q ≤ (W a + W b).natAbs → q ≤ r) ∧ (∀ q, (W a + W b).natAbs ≤ u q → r ≤ q) := by
  obtain ⟨m, p, h1, hp, h2, hm⟩ := read_fin ha
  obtain ⟨n, q, k1, kp, k2, km⟩ := read_fin hb
  have hwa : W a = signed (S a) m (p + 1074).toNat := by unfold W; rw [h1]; rfl
  have hwb : W b = signed (S b) n (q + 1074).toNat := by unfold W; rw [k1]; rfl
  show ∃ s r, double.add a b = _ ∧ _
  unfold Format.add
  rw [h1, k1]
  unfold Datum.sum
  dsimp only
  obtain ⟨T, hT⟩ : ∃ T, signed (S a) m (p - min p q).toNat + signed (S b) n (q - min p q).toNat = T := ⟨_, rfl⟩
  obtain ⟨B, hB⟩ : ∃ B : Nat, (min p q + 1074).toNat = B := ⟨_, rfl⟩
  have hs : W a + W b = T * ((2 ^ B : Nat) : Int) := by
    rw [hwa, hwb, ← hT, show (p + 1074).toNat = (p - min p q).toNat + B by omega, show (q + 1074).toNat = (q - min p q).toNat + B by omega, signed_add, signed_add, Int.add_mul]
  rw [hT]
  have pB : 0 < 2 ^ B := Nat.two_pow_pos B
  by_cases h0 : T = 0
  · subst h0
    refine ⟨S a && S b, 0, ?_, ?_, ?_, fun _ _ => Nat.zero_le _⟩
    · rw [if_pos rfl, Nat.zero_min]
      show some (double.nearest (S a && S b) 0 (min p q)) = _
      unfold Format.nearest
      rw [if_pos rfl]
    · intro h; rw [hs] at h; simp at h
    · intro q hq
      rw [hs] at hq
      have : u q ≤ u 0 := by rw [show u 0 = 0 from rfl]; simpa using hq
      exact u_le_iff.1 this
  · have hb := bracket (decide (T < 0)) T.natAbs (min p q) (by omega) 0 (by omega)
    have e1 : T.natAbs * 2 ^ (min p q + 1074 + ((0 : Nat) : Int)).toNat = (W a + W b).natAbs := by
      rw [hs, Int.natAbs_mul, Int.natAbs_natCast, show (min p q + 1074 + ((0 : Nat) : Int)).toNat = B by omega]
    rw [e1] at hb
    refine ⟨decide (T < 0), rung (decide (T < 0)) T.natAbs (min p q), ?_, ?_, fun q hq => (hb q).1 (by simpa using hq), fun q hq => (hb q).2 (by simpa using hq)⟩
    · rw [if_neg h0]
      show some (double.nearest _ _ _) = _
      rw [nearest_rung _ _ _ (by omega), show inf' = 2047 * 2 ^ 52 from rfl]
    · intro _
      rw [hs]
      have : (T * ((2 ^ B : Nat) : Int) < 0) ↔ T < 0 := by
        constructor
        · intro h
          rcases Int.lt_or_le T 0 with k | k
          · exact k
          · have := Int.mul_nonneg k (Int.natCast_nonneg (2 ^ B)); omega
        · intro h
          have := Int.mul_lt_mul_of_pos_right h (show (0 : Int) < ((2 ^ B : Nat) : Int) by exact_mod_cast pB)
          omega
      simp only [this]
/-- A float that is nought, or beyond 1e-300, has an exact half. -/
def far (x : Nat) : Prop := R x = 0 ∨ 2 ^ 53 ≤ R x
theorem half_far {x : Nat} (h : R x < inf') (hf : far x) : ∃ b, floatBits .quo .f64 x two = some b ∧ R b < inf' ∧ W x = 2 * W b := by
  obtain ⟨r, h1, h2, h3, h4⟩ := half h
  have hr : r < 2 ^ 63 := Nat.lt_trans h2 inf'_lt
  obtain ⟨k1, k2⟩ := R_word (S x) r hr
  refine ⟨_, h1, by rw [k1]; exact h2, ?_⟩
  have hw := (W_fin (x := double.word (S x) r) (by rw [k1]; exact h2)).2
  rw [hw, (W_fin h).2, k1, k2]
  have key : u (R x) = 2 * u r := by
    have : ∃ q, u q * 2 = u (R x) := by
      rcases hf with hf | hf
      · rw [hf]; exact ⟨0, rfl⟩
      · refine ⟨R x - 2 ^ 52, ?_⟩
        unfold u
        rw [if_neg (by omega), if_neg (by omega), show (R x - 2 ^ 52) % 2 ^ 52 = R x % 2 ^ 52 by omega, show R x / 2 ^ 52 - 1 = ((R x - 2 ^ 52) / 2 ^ 52 - 1) + 1 by omega,
          show (2 : Nat) ^ ((R x - 2 ^ 52) / 2 ^ 52 - 1 + 1) = 2 ^ ((R x - 2 ^ 52) / 2 ^ 52 - 1) * 2 from Nat.pow_succ _ _, Nat.mul_assoc]
    obtain ⟨q, hq⟩ := this
    have a1 := h3 q (by omega)
    have a2 := h4 q (by omega)
    obtain rfl : r = q := by omega
    omega
  rw [key]
  generalize u r = z
  unfold sg
  split <;> omega
def midv (x y : Nat) : Option Nat := (floatBits .quo .f64 x two).bind fun a => (floatBits .quo .f64 y two).bind fun b => floatBits .add .f64 a b
theorem midv_comm (x y : Nat) : midv x y = midv y x := by
  unfold midv
  cases floatBits .quo .f64 x two <;> cases floatBits .quo .f64 y two <;> simp [add_comm']
theorem mid_spec {x y : Nat} (hx : R x < inf') (hy : R y < inf') (fx : far x) (fy : far y) : ∃ v, midv x y = some v ∧ R v < inf' ∧ N v = false ∧ (W x ≤ W v ∨ W y ≤ W v) ∧ (W v ≤ W x ∨ W v ≤ W y) := by
  obtain ⟨a, a1, a2, a3⟩ := half_far hx fx
  obtain ⟨b, b1, b2, b3⟩ := half_far hy fy
  obtain ⟨s, r, c1, c2, c3, c4⟩ := add_spec a2 b2
  have wx := (W_fin hx).2
  have wy := (W_fin hy).2
  -- the rung lies under the greater one's
  have hr : r < inf' ∧ ((W a + W b).natAbs ≤ u (R x) ∨ (W a + W b).natAbs ≤ u (R y)) := by
    have : (W a + W b).natAbs ≤ u (R x) ∨ (W a + W b).natAbs ≤ u (R y) := by
      unfold sg at wx wy
      split at wx <;> split at wy <;> omega
    refine ⟨?_, this⟩
    rcases this with h | h
    · exact Nat.lt_of_le_of_lt (c4 _ h) hx
    · exact Nat.lt_of_le_of_lt (c4 _ h) hy
  have hmin : min r inf' = r := Nat.min_eq_left (Nat.le_of_lt hr.1)
  rw [hmin] at c1
  obtain ⟨k1, k2⟩ := R_word s r (Nat.lt_trans hr.1 inf'_lt)
  have hv := W_fin (x := double.word s r) (by rw [k1]; exact hr.1)
  rw [k1, k2] at hv
  refine ⟨double.word s r, by unfold midv; rw [a1, b1]; exact c1, by rw [k1]; exact hr.1, hv.1, ?_⟩
  rw [hv.2]
  have c3x : u (R x) ≤ (W a + W b).natAbs → u (R x) ≤ u r := fun h => u_le_iff.2 (c3 _ h)
  have c3y : u (R y) ≤ (W a + W b).natAbs → u (R y) ≤ u r := fun h => u_le_iff.2 (c3 _ h)
  have c4x : (W a + W b).natAbs ≤ u (R x) → u r ≤ u (R x) := fun h => u_le_iff.2 (c4 _ h)
  have c4y : (W a + W b).natAbs ≤ u (R y) → u r ≤ u (R y) := fun h => u_le_iff.2 (c4 _ h)
  by_cases h0 : W a + W b = 0
  · have h5 : r ≤ 0 := c4 0 (by rw [h0]; exact Nat.le_refl _)
    have h6 : u r = 0 := by rw [show r = 0 by omega]; rfl
    rw [h6]
    unfold sg
    split <;> omega
  · have hs := c2 h0
    clear c1 c3 c4 hv
    by_cases hneg : W a + W b < 0
    · rw [decide_eq_true hneg] at hs
      subst hs
      unfold sg at *
      rw [if_pos rfl]
      split at wx <;> split at wy <;> omega
    · rw [decide_eq_false hneg] at hs
      subst hs
      unfold sg at *
      rw [if_neg (by decide)]
      split at wx <;> split at wy <;> omega
end Go.Proofs.Ytebfnmhpmgjoiaa.Fl
