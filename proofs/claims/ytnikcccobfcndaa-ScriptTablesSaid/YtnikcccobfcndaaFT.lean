/- Floats as the model has them: what a word stands for, its order, as whole numbers. No program in sight. -/
import Derived.WalkLawsBesides
import Ieee.Arith
namespace Go.Proofs.Ytnikcccobfcndaa.FT
open Ieee
def big : Int := 2 ^ 2200
def V (d : Datum) : Int := match d with
  | .number s m p => signed s m (p + 1074).toNat
  | .infinity s => if s then -big else big
  | .nan _ _ => 0
def Ok (d : Datum) : Prop := match d with
  | .number _ m p => m < 2 ^ 53 ∧ -1074 ≤ p ∧ p ≤ 971
  | _ => True
theorem lp : double.leastPlace = -1074 := by decide +kernel
theorem bin : double.binade = 2 ^ 52 := rfl
theorem inf : double.infRung = 2047 * 2 ^ 52 := by decide +kernel
theorem sw : double.signWeight = 2 ^ 63 := rfl
theorem read_ok (x : Nat) : Ok (double.read x) := by
  unfold Format.read
  rw [lp, bin, inf, sw]
  dsimp only
  split
  · rename_i h; exact ⟨by omega, by omega, by omega⟩
  · split
    · rename_i h h2
      refine ⟨by omega, by omega, ?_⟩
      have : x % 2 ^ 63 / 2 ^ 52 < 2047 := by omega
      omega
    · split <;> trivial
theorem signed_eq (s : Bool) (m a : Nat) : signed s m a = (if s then -1 else 1) * ((m * 2 ^ a : Nat) : Int) := by
  unfold signed; rw [Nat.shiftLeft_eq]
  cases s <;> simp
theorem signed_add (s : Bool) (m a b : Nat) : signed s m (a + b) = signed s m a * ((2 ^ b : Nat) : Int) := by
  rw [signed_eq, signed_eq, Nat.pow_add, ← Nat.mul_assoc, Int.natCast_mul (m * 2 ^ a), ← Int.mul_assoc]
theorem compare_mul (a b c : Int) (hc : 0 < c) : compare (a * c) (b * c) = compare a b := by
  have h1 : a * c < b * c ↔ a < b := ⟨fun h => Int.lt_of_mul_lt_mul_right h (Int.le_of_lt hc), fun h => Int.mul_lt_mul_of_pos_right h hc⟩
  have h2 : a * c = b * c ↔ a = b := ⟨fun h => Int.eq_of_mul_eq_mul_right (by omega) h, fun h => by rw [h]⟩
  show compareOfLessAndEq _ _ = compareOfLessAndEq _ _
  unfold compareOfLessAndEq
  simp only [h1, h2]
theorem cmp_lt {a b : Int} (h : a < b) : compare a b = .lt := by
  show compareOfLessAndEq _ _ = _
  unfold compareOfLessAndEq; rw [if_pos h]
theorem cmp_gt {a b : Int} (h : b < a) : compare a b = .gt := by
  show compareOfLessAndEq _ _ = _
  unfold compareOfLessAndEq; rw [if_neg (by omega), if_neg (by omega)]
theorem cmp_eq (a : Int) : compare a a = .eq := by
  show compareOfLessAndEq _ _ = _
  unfold compareOfLessAndEq; rw [if_neg (by omega), if_pos rfl]
set_option exponentiation.threshold 3000 in
theorem fin_bound {s : Bool} {m : Nat} {p : Int} (h : Ok (.number s m p)) : -big < V (.number s m p) ∧ V (.number s m p) < big := by
  obtain ⟨h1, h2, h3⟩ := h
  show -big < signed s m (p + 1074).toNat ∧ signed s m (p + 1074).toNat < big
  rw [signed_eq]
  have hp : (p + 1074).toNat ≤ 2045 := by omega
  have hm : m * 2 ^ (p + 1074).toNat < 2 ^ 2200 := by
    calc m * 2 ^ (p + 1074).toNat ≤ m * 2 ^ 2045 := Nat.mul_le_mul_left _ (Nat.pow_le_pow_right (by decide) hp)
      _ < 2 ^ 53 * 2 ^ 2045 := Nat.mul_lt_mul_of_pos_right h1 (Nat.two_pow_pos _)
      _ = 2 ^ 2098 := (Nat.pow_add _ _ _).symm
      _ ≤ 2 ^ 2200 := Nat.pow_le_pow_right (by decide) (by decide)
  have hb : big = ((2 ^ 2200 : Nat) : Int) := by unfold big; rw [Int.natCast_pow]; rfl
  rw [hb]
  generalize (2 ^ 2200 : Nat) = B at hm ⊢
  generalize m * 2 ^ (p + 1074).toNat = M at hm ⊢
  cases s <;> simp <;> omega
theorem big_pos : 0 < big := by unfold big; exact Int.pow_pos (by decide)
theorem order_V {d e : Datum} (hd : Ok d) (he : Ok e) : d.order e = if d.isNaN || e.isNaN then none else some (compare (V d) (V e)) := by
  cases d with
  | nan s t => cases e <;> rfl
  | infinity s =>
    cases e with
    | nan _ _ => rfl
    | infinity t =>
      have := big_pos
      cases s <;> cases t
      · show some _ = some (compare big big); rw [cmp_eq]; rfl
      · show some Ordering.gt = some (compare big (-big)); rw [cmp_gt (by omega)]
      · show some Ordering.lt = some (compare (-big) big); rw [cmp_lt (by omega)]
      · show some _ = some (compare (-big) (-big)); rw [cmp_eq]; rfl
    | number t n j =>
      have hb := fin_bound he
      cases s
      · show some Ordering.gt = some (compare big (V (.number t n j))); rw [cmp_gt hb.2]
      · show some Ordering.lt = some (compare (-big) (V (.number t n j))); rw [cmp_lt hb.1]
  | number s m i =>
    cases e with
    | nan _ _ => rfl
    | infinity t =>
      have hb := fin_bound hd
      cases t
      · show some Ordering.lt = some (compare (V (.number s m i)) big); rw [cmp_lt hb.2]
      · show some Ordering.gt = some (compare (V (.number s m i)) (-big)); rw [cmp_gt hb.1]
    | number t n j =>
      show some (compare (signed s m (i - min i j).toNat) (signed t n (j - min i j).toNat)) = some (compare (signed s m (i + 1074).toNat) (signed t n (j + 1074).toNat))
      have h1 := hd.2.1
      have h2 := he.2.1
      rw [show (i + 1074).toNat = (i - min i j).toNat + (min i j + 1074).toNat by omega, show (j + 1074).toNat = (j - min i j).toNat + (min i j + 1074).toNat by omega, signed_add, signed_add, compare_mul]
      exact Int.natCast_pos.mpr (Nat.two_pow_pos _)
/-- A word's NaN and value. -/
def N (x : Nat) : Bool := (double.read x).isNaN
def W (x : Nat) : Int := V (double.read x)
/-- The sign of a word's datum. -/
def S (x : Nat) : Bool := (double.read x).neg
theorem order_W (x y : Nat) : double.order x y = if N x || N y then none else some (compare (W x) (W y)) := order_V (read_ok x) (read_ok y)
theorem f64 : FloatKind.f64.format = double := rfl
theorem lt_W (x y : Nat) : (FloatKind.f64.format.order x y == some .lt) = (!N x && !N y && decide (W x < W y)) := by
  rw [f64, order_W]
  cases N x <;> cases N y <;> try rfl
  simp only [Bool.or_self, Bool.false_eq_true, if_false, Bool.not_false, Bool.and_self, Bool.true_and]
  rcases Int.lt_trichotomy (W x) (W y) with h | h | h
  · rw [cmp_lt h, decide_eq_true h]; rfl
  · rw [h, cmp_eq, decide_eq_false (by omega)]; rfl
  · rw [cmp_gt h, decide_eq_false (by omega)]; rfl
theorem gt_W (x y : Nat) : (FloatKind.f64.format.order x y == some .gt) = (!N x && !N y && decide (W y < W x)) := by
  rw [f64, order_W]
  cases N x <;> cases N y <;> try rfl
  simp only [Bool.or_self, Bool.false_eq_true, if_false, Bool.not_false, Bool.and_self, Bool.true_and]
  rcases Int.lt_trichotomy (W x) (W y) with h | h | h
  · rw [cmp_lt h, decide_eq_false (by omega)]; rfl
  · rw [h, cmp_eq, decide_eq_false (by omega)]; rfl
  · rw [cmp_gt h, decide_eq_true h]; rfl
theorem eq_W (x y : Nat) : (FloatKind.f64.format.order x y == some .eq) = (!N x && !N y && decide (W x = W y)) := by
  rw [f64, order_W]
  cases N x <;> cases N y <;> try rfl
  simp only [Bool.or_self, Bool.false_eq_true, if_false, Bool.not_false, Bool.and_self, Bool.true_and]
  rcases Int.lt_trichotomy (W x) (W y) with h | h | h
  · rw [cmp_lt h, decide_eq_false (by omega)]; rfl
  · rw [h, cmp_eq, decide_eq_true rfl]; rfl
  · rw [cmp_gt h, decide_eq_false (by omega)]; rfl
theorem ne_W (x y : Nat) : (FloatKind.f64.format.order x y != some .eq) = !(!N x && !N y && decide (W x = W y)) := by
  rw [← eq_W]; rfl
/-- One over nought. -/
def infw (s : Bool) : Nat := double.word s double.infRung
theorem nought {x : Nat} (hn : N x = false) (h : W x = 0) : ∃ p, double.read x = .number (S x) 0 p := by
  unfold N W S at *
  cases hd : double.read x with
  | nan s t => rw [hd] at hn; cases hn
  | infinity s => rw [hd] at h; unfold V at h; have := big_pos; cases s <;> simp at h <;> omega
  | number s m p =>
    rw [hd] at h
    have : m = 0 := by
      replace h : signed s m (p + 1074).toNat = 0 := h
      rw [signed_eq] at h
      have h2 := Nat.two_pow_pos (p + 1074).toNat
      rcases Nat.eq_zero_or_pos m with e | e
      · exact e
      · have := Nat.mul_pos e h2
        generalize m * 2 ^ (p + 1074).toNat = M at this h
        cases s <;> simp at h <;> omega
    subst this
    exact ⟨p, rfl⟩
theorem one_over {x : Nat} (hn : N x = false) (h : W x = 0) : floatBits .quo .f64 4607182418800017408 x = some (infw (S x)) := by
  obtain ⟨p, hp⟩ := nought hn h
  show double.div 4607182418800017408 x = _
  unfold Format.div
  rw [hp, show double.read 4607182418800017408 = .number false (2 ^ 52) (-52) by decide +kernel]
  rw [show Datum.quotient (double.fractionBits + 2) (.number false (2 ^ 52) (-52)) (.number (S x) 0 p) = some (.infinity (S x)) from by
    unfold Datum.quotient; dsimp only; rw [if_pos rfl, if_neg (by decide)]; cases S x <;> rfl]
  rfl
theorem inf_W (s : Bool) : N (infw s) = false ∧ W (infw s) = if s then -big else big := by
  cases s
  · have : double.read (infw false) = .infinity false := by decide +kernel
    unfold N W; rw [this]; exact ⟨rfl, rfl⟩
  · have : double.read (infw true) = .infinity true := by decide +kernel
    unfold N W; rw [this]; exact ⟨rfl, rfl⟩
end Go.Proofs.Ytnikcccobfcndaa.FT
