/- Rounding as the model has it: between the same words as what is rounded. No program in sight. -/
import Derived.Test.YtnikcccobfcndaaFT
namespace Go.Proofs.Ytnikcccobfcndaa.FT
open Ieee
set_option linter.unusedSimpArgs false
set_option linter.unusedVariables false
/-- The magnitude of a rung, in the least places. -/
def u (r : Nat) : Nat := if r < 2 ^ 52 then r else (2 ^ 52 + r % 2 ^ 52) * 2 ^ (r / 2 ^ 52 - 1)
theorem u_next (r : Nat) : u r < u (r + 1) := by
  unfold u
  by_cases h1 : r + 1 < 2 ^ 52
  · rw [if_pos (by omega), if_pos h1]; omega
  by_cases h2 : r < 2 ^ 52
  · have : r + 1 = 2 ^ 52 := by omega
    rw [if_pos h2, if_neg h1, this]; omega
  rw [if_neg h2, if_neg h1]
  by_cases h3 : (r + 1) % 2 ^ 52 = 0
  · have e1 : (r + 1) / 2 ^ 52 - 1 = (r / 2 ^ 52 - 1) + 1 := by omega
    have e2 : r % 2 ^ 52 = 2 ^ 52 - 1 := by omega
    rw [h3, e1, e2]
    generalize r / 2 ^ 52 - 1 = k
    rw [show (2 : Nat) ^ (k + 1) = 2 ^ k * 2 from Nat.pow_succ _ _]
    have := Nat.two_pow_pos k
    generalize 2 ^ k = P at *
    omega
  · have e1 : (r + 1) / 2 ^ 52 = r / 2 ^ 52 := by omega
    have e2 : (r + 1) % 2 ^ 52 = r % 2 ^ 52 + 1 := by omega
    rw [e1, e2]
    exact Nat.mul_lt_mul_of_pos_right (by omega) (Nat.two_pow_pos _)
theorem u_lt {q r : Nat} (h : q < r) : u q < u r := by
  induction r with
  | zero => omega
  | succ r ih =>
    rcases Nat.lt_or_ge q r with h1 | h1
    · exact Nat.lt_trans (ih h1) (u_next r)
    · obtain rfl : q = r := by omega
      exact u_next q
theorem u_le_iff {q r : Nat} : u q ≤ u r ↔ q ≤ r := by
  constructor
  · intro h
    rcases Nat.lt_or_ge r q with h1 | h1
    · have := u_lt h1; omega
    · exact h1
  · intro h
    rcases Nat.lt_or_ge q r with h1 | h1
    · exact Nat.le_of_lt (u_lt h1)
    · obtain rfl : q = r := by omega
      exact Nat.le_refl _
theorem u_div (q e : Nat) (h : 2 ^ (52 + e) ≤ u q) : ∃ t, u q = t * 2 ^ e := by
  unfold u at *
  by_cases h1 : q < 2 ^ 52
  · rw [if_pos h1] at *
    rcases Nat.eq_zero_or_pos e with rfl | he
    · exact ⟨q, by simp⟩
    · have : 2 ^ 52 ≤ 2 ^ (52 + e) := Nat.pow_le_pow_right (by decide) (by omega)
      omega
  · rw [if_neg h1] at *
    have h2 : (2 ^ 52 + q % 2 ^ 52) * 2 ^ (q / 2 ^ 52 - 1) < 2 ^ (53 + (q / 2 ^ 52 - 1)) := by
      rw [Nat.pow_add]; exact Nat.mul_lt_mul_of_pos_right (by omega) (Nat.two_pow_pos _)
    have h3 : 52 + e < 53 + (q / 2 ^ 52 - 1) := (Nat.pow_lt_pow_iff_right (by decide)).1 (Nat.lt_of_le_of_lt h h2)
    refine ⟨(2 ^ 52 + q % 2 ^ 52) * 2 ^ (q / 2 ^ 52 - 1 - e), ?_⟩
    rw [Nat.mul_assoc, ← Nat.pow_add, show q / 2 ^ 52 - 1 - e + e = q / 2 ^ 52 - 1 by omega]
/-- Cutting to the nearest whole number. -/
theorem cut_spec (neg : Bool) (n drop t : Nat) : (t * 2 ^ drop ≤ n → t ≤ Toward.even.cut neg n drop) ∧ (n ≤ t * 2 ^ drop → Toward.even.cut neg n drop ≤ t) := by
  unfold Toward.cut
  dsimp only
  by_cases hd : drop ≤ n.log2 + 2
  · rw [Nat.min_eq_left hd, Nat.shiftLeft_eq, Nat.one_mul]
    have hg := Nat.two_pow_pos drop
    generalize 2 ^ drop = g at *
    have hdm := Nat.div_add_mod n g
    have hr := Nat.mod_lt n hg
    generalize hl : n / g = low at *
    generalize n % g = rest at *
    have key : (decide (g < 2 * rest) || g == 2 * rest && low % 2 == 1).toNat ≤ 1 ∧ (rest = 0 → (decide (g < 2 * rest) || g == 2 * rest && low % 2 == 1).toNat = 0) := by
      refine ⟨by cases (decide (g < 2 * rest) || g == 2 * rest && low % 2 == 1) <;> decide, fun h => ?_⟩
      subst h
      rw [decide_eq_false (by omega), show (g == 2 * 0) = false from beq_eq_false_iff_ne.mpr (by omega)]; rfl
    generalize (decide (g < 2 * rest) || g == 2 * rest && low % 2 == 1).toNat = m at *
    constructor
    · intro h
      have : t ≤ low := by
        rcases Nat.lt_or_ge low t with h1 | h1
        · have := Nat.mul_le_mul_right g (show low + 1 ≤ t from h1)
          rw [Nat.add_mul, Nat.one_mul, Nat.mul_comm low] at this
          omega
        · exact h1
      omega
    · intro h
      rcases Nat.eq_zero_or_pos rest with h0 | h0
      · rw [key.2 h0]
        rcases Nat.lt_or_ge t low with h1 | h1
        · have := Nat.mul_lt_mul_of_pos_right h1 hg
          rw [Nat.mul_comm low] at this
          omega
        · omega
      · rcases Nat.lt_or_ge low t with h1 | h1
        · omega
        · have := Nat.mul_le_mul_right g h1
          rw [Nat.mul_comm low] at this
          omega
  · rw [Nat.min_eq_right (by omega), Nat.shiftLeft_eq, Nat.one_mul]
    have hn : n < 2 ^ (n.log2 + 1) := Nat.lt_log2_self
    have hg : 2 ^ (n.log2 + 2) = 2 * 2 ^ (n.log2 + 1) := by rw [Nat.pow_succ, Nat.mul_comm]
    have hlt : n < 2 ^ (n.log2 + 2) := by omega
    have hp : 2 ^ (n.log2 + 2) < 2 ^ drop := Nat.pow_lt_pow_right (by decide) (by omega)
    rw [Nat.div_eq_of_lt hlt, Nat.mod_eq_of_lt hlt, hg, decide_eq_false (by omega), show (2 * 2 ^ (n.log2 + 1) == 2 * n) = false from beq_eq_false_iff_ne.mpr (by omega)]
    constructor
    · intro h
      rcases Nat.eq_zero_or_pos t with h0 | h0
      · omega
      · have := Nat.mul_le_mul_right (2 ^ drop) h0
        omega
    · intro h; exact Nat.zero_le _
/-- The rung that rounding finds. -/
def rung (neg : Bool) (mag : Nat) (place : Int) : Nat :=
  let last := max (place + mag.log2 - 52) (-1074)
  (last + 1074).toNat * 2 ^ 52 + Toward.even.cut neg (mag <<< (place - last).toNat) (last - place).toNat
theorem nearest_rung (neg : Bool) (mag : Nat) (place : Int) (h : mag ≠ 0) : double.nearest neg mag place = double.word neg (min (rung neg mag place) (2047 * 2 ^ 52)) := by
  unfold Format.nearest rung
  rw [if_neg h, lp, bin, inf]
  dsimp only
  rw [show double.fractionBits = 52 from rfl]
  rfl
theorem u_rung (e c : Nat) (h1 : e = 0 ∨ 2 ^ 52 ≤ c) (h2 : c ≤ 2 ^ 53) : u (e * 2 ^ 52 + c) = c * 2 ^ e := by
  unfold u
  by_cases h3 : e * 2 ^ 52 + c < 2 ^ 52
  · have : e = 0 := by omega
    subst this
    rw [if_pos h3]; omega
  rw [if_neg h3]
  have h4 : 2 ^ 52 ≤ c := by omega
  rcases Nat.lt_or_ge c (2 ^ 53) with h5 | h5
  · rw [show (e * 2 ^ 52 + c) % 2 ^ 52 = c - 2 ^ 52 by omega, show (e * 2 ^ 52 + c) / 2 ^ 52 - 1 = e by omega, show 2 ^ 52 + (c - 2 ^ 52) = c by omega]
  · have : c = 2 ^ 53 := by omega
    subst this
    rw [show (e * 2 ^ 52 + 2 ^ 53) % 2 ^ 52 = 0 by omega, show (e * 2 ^ 52 + 2 ^ 53) / 2 ^ 52 - 1 = e + 1 by omega, show (2 : Nat) ^ (e + 1) = 2 ^ e * 2 from Nat.pow_succ _ _]
    generalize 2 ^ e = P
    omega
/-- Rounding lies between the same rungs as what is rounded. K: as many places more as the place needs. -/
theorem bracket (neg : Bool) (mag : Nat) (place : Int) (h : mag ≠ 0) (K : Nat) (hK : 0 ≤ place + 1074 + K) (q : Nat) :
    (u q * 2 ^ K ≤ mag * 2 ^ (place + 1074 + K).toNat → q ≤ rung neg mag place) ∧ (mag * 2 ^ (place + 1074 + K).toNat ≤ u q * 2 ^ K → rung neg mag place ≤ q) := by
  have hlo : 2 ^ mag.log2 ≤ mag := Nat.log2_self_le h
  have hhi : mag < 2 ^ (mag.log2 + 1) := Nat.lt_log2_self
  unfold rung
  dsimp only
  obtain ⟨last, hlast⟩ : ∃ l : Int, max (place + mag.log2 - 52) (-1074) = l := ⟨_, rfl⟩
  rw [hlast]
  obtain ⟨e, he⟩ : ∃ e : Nat, (last + 1074).toNat = e := ⟨_, rfl⟩
  obtain ⟨a, ha⟩ : ∃ a : Nat, (place - last).toNat = a := ⟨_, rfl⟩
  obtain ⟨b, hb⟩ : ∃ b : Nat, (last - place).toNat = b := ⟨_, rfl⟩
  obtain ⟨m, hm⟩ : ∃ m : Nat, (place + 1074 + K).toNat = m := ⟨_, rfl⟩
  rw [he, ha, hb, hm, Nat.shiftLeft_eq]
  have hmb : m + b = a + (e + K) := by omega
  have hn1 : mag * 2 ^ a ≤ 2 ^ 53 * 2 ^ b := by
    rw [← Nat.pow_add]
    calc mag * 2 ^ a ≤ 2 ^ (mag.log2 + 1) * 2 ^ a := Nat.mul_le_mul_right _ (Nat.le_of_lt hhi)
      _ = 2 ^ (mag.log2 + 1 + a) := (Nat.pow_add _ _ _).symm
      _ ≤ 2 ^ (53 + b) := Nat.pow_le_pow_right (by decide) (by omega)
  have hn2 : e = 0 ∨ 2 ^ 52 * 2 ^ b ≤ mag * 2 ^ a := by
    rcases Nat.eq_zero_or_pos e with h0 | h0
    · exact .inl h0
    · refine .inr ?_
      calc 2 ^ 52 * 2 ^ b = 2 ^ (52 + b) := (Nat.pow_add _ _ _).symm
        _ = 2 ^ (mag.log2 + a) := by rw [show 52 + b = mag.log2 + a by omega]
        _ = 2 ^ mag.log2 * 2 ^ a := Nat.pow_add _ _ _
        _ ≤ mag * 2 ^ a := Nat.mul_le_mul_right _ hlo
  have hM : mag * 2 ^ m * 2 ^ b = mag * 2 ^ a * 2 ^ (e + K) := by
    rw [Nat.mul_assoc, Nat.mul_assoc, ← Nat.pow_add, ← Nat.pow_add, hmb]
  have hc := fun t => cut_spec neg (mag * 2 ^ a) b t
  obtain ⟨c, hcc⟩ : ∃ c, Toward.even.cut neg (mag * 2 ^ a) b = c := ⟨_, rfl⟩
  rw [hcc] at hc ⊢
  have c1 : c ≤ 2 ^ 53 := (hc (2 ^ 53)).2 hn1
  have c2 : e = 0 ∨ 2 ^ 52 ≤ c := hn2.imp id (fun h => (hc (2 ^ 52)).1 h)
  have hu := u_rung e c c2 c1
  have pb := Nat.two_pow_pos b
  have pe := Nat.two_pow_pos e
  have pK := Nat.two_pow_pos K
  have hsplit : (2 : Nat) ^ (e + K) = 2 ^ e * 2 ^ K := Nat.pow_add _ _ _
  by_cases hd : 2 ^ (52 + e) ≤ u q ∨ e = 0
  · obtain ⟨t, ht⟩ : ∃ t, u q = t * 2 ^ e := by
      rcases hd with hd | hd
      · exact u_div q e hd
      · exact ⟨u q, by rw [hd]; simp⟩
    have e1 : u q * 2 ^ K * 2 ^ b = t * 2 ^ b * 2 ^ (e + K) := by
      rw [ht, hsplit]; simp only [Nat.mul_assoc, Nat.mul_comm, Nat.mul_left_comm]
    have pp : 0 < 2 ^ (e + K) := Nat.two_pow_pos _
    constructor
    · intro hle
      have h1 := Nat.mul_le_mul_right (2 ^ b) hle
      rw [e1, hM] at h1
      have h2 := (hc t).1 (Nat.le_of_mul_le_mul_right h1 pp)
      rw [← u_le_iff, hu, ht]
      exact Nat.mul_le_mul_right _ h2
    · intro hle
      have h1 := Nat.mul_le_mul_right (2 ^ b) hle
      rw [e1, hM] at h1
      have h2 := (hc t).2 (Nat.le_of_mul_le_mul_right h1 pp)
      rw [← u_le_iff, hu, ht]
      exact Nat.mul_le_mul_right _ h2
  · have hd1 : u q < 2 ^ (52 + e) := by omega
    have he0 : e ≠ 0 := by omega
    have hc52 : 2 ^ 52 ≤ c := c2.resolve_left he0
    have hlt : u q < c * 2 ^ e := by
      rw [Nat.pow_add] at hd1
      exact Nat.lt_of_lt_of_le hd1 (Nat.mul_le_mul_right _ hc52)
    constructor
    · intro _
      rw [← u_le_iff, hu]; exact Nat.le_of_lt hlt
    · intro hle
      exfalso
      have h1 := Nat.mul_le_mul_right (2 ^ b) hle
      rw [hM] at h1
      have h2 := Nat.mul_le_mul_right (2 ^ (e + K)) (hn2.resolve_left he0)
      have h3 := Nat.le_trans h2 h1
      rw [show 2 ^ 52 * 2 ^ b * 2 ^ (e + K) = 2 ^ (52 + e) * (2 ^ K * 2 ^ b) by rw [hsplit, Nat.pow_add]; simp only [Nat.mul_assoc, Nat.mul_comm, Nat.mul_left_comm], Nat.mul_assoc] at h3
      have h4 := Nat.le_of_mul_le_mul_right h3 (Nat.mul_pos pK pb)
      omega
def inf' : Nat := 2047 * 2 ^ 52
def R (x : Nat) : Nat := x % 2 ^ 63
def sg (s : Bool) : Int := if s then -1 else 1
def two : Nat := 4611686018427387904
theorem u_val {s : Bool} (r : Nat) (h : r < inf') : ∃ m p, (if r < 2 ^ 52 then Datum.number s r (-1074) else Datum.number s (2 ^ 52 + r % 2 ^ 52) (-1074 + (r / 2 ^ 52 - 1 : Nat))) = .number s m p ∧ -1074 ≤ p ∧ u r = m * 2 ^ (p + 1074).toNat ∧ m < 2 ^ 53 := by
  unfold u
  by_cases h1 : r < 2 ^ 52
  · rw [if_pos h1, if_pos h1]; exact ⟨r, -1074, rfl, by omega, by simp, by omega⟩
  · rw [if_neg h1, if_neg h1]
    refine ⟨_, _, rfl, by omega, ?_, by omega⟩
    congr 2; omega
theorem S_def (x : Nat) : S x = (x / 2 ^ 63 % 2 == 1) := by
  unfold S Format.read
  rw [sw]; dsimp only
  repeat' split
  all_goals rfl
theorem read_fin {x : Nat} (h : R x < inf') : ∃ m p, double.read x = .number (S x) m p ∧ -1074 ≤ p ∧ u (R x) = m * 2 ^ (p + 1074).toNat ∧ m < 2 ^ 53 := by
  have hS := S_def x
  obtain ⟨m, p, h1, h2⟩ := u_val (s := S x) (R x) h
  refine ⟨m, p, ?_, h2⟩
  rw [← h1, hS]
  unfold Format.read
  rw [lp, bin, inf, sw]
  dsimp only
  by_cases k : R x < 2 ^ 52
  · rw [if_pos k]; unfold R at k; rw [if_pos k]; rfl
  · rw [if_neg k]; unfold R at k; rw [if_neg k]; unfold R inf' at h; rw [if_pos h]; rfl
theorem W_fin {x : Nat} (h : R x < inf') : N x = false ∧ W x = sg (S x) * (u (R x) : Int) := by
  obtain ⟨m, p, h1, _, h2, _⟩ := read_fin h
  unfold N W
  rw [h1]
  refine ⟨rfl, ?_⟩
  show signed _ _ _ = _
  rw [signed_eq, h2]; rfl
theorem R_word (s : Bool) (r : Nat) (h : r < 2 ^ 63) : R (double.word s r) = r ∧ S (double.word s r) = s := by
  rw [S_def]
  unfold R Format.word
  rw [sw]
  constructor
  · split <;> omega
  · have : ((if s = true then 2 ^ 63 + r else r) / 2 ^ 63 % 2 == 1) = s := by
      cases s
      · rw [if_neg (by decide)]; exact beq_eq_false_iff_ne.mpr (by omega)
      · rw [if_pos rfl]; exact beq_iff_eq.mpr (by omega)
    exact this
theorem two_read : double.read two = .number false (2 ^ 52) (-51) := by decide +kernel
theorem inf'_lt : inf' < 2 ^ 63 := by decide
/-- The half of a finite float. -/
theorem half {x : Nat} (h : R x < inf') : ∃ r, floatBits .quo .f64 x two = some (double.word (S x) r) ∧ r < inf' ∧ (∀ q, u q * 2 ≤ u (R x) → q ≤ r) ∧ (∀ q, u (R x) ≤ u q * 2 → r ≤ q) := by
  obtain ⟨m, p, h1, hp, h2, hm⟩ := read_fin h
  show ∃ r, double.div x two = _ ∧ _
  unfold Format.div
  rw [h1, two_read]
  unfold Datum.quotient
  dsimp only
  rw [if_neg (by decide), show double.fractionBits + 2 = 54 from rfl, show (2 ^ 52 : Nat).log2 = 52 by decide +kernel]
  rw [Option.map_some, Bool.xor_false]
  have hl : m.log2 ≤ 53 := by
    rcases Nat.eq_zero_or_pos m with h0 | h0
    · subst h0; decide
    · have := (Nat.log2_lt (by omega)).2 hm; omega
  obtain ⟨more, hmore⟩ : ∃ k, 54 + 52 - m.log2 = k + 52 := ⟨54 - m.log2, by omega⟩
  rw [hmore]
  have hs : m <<< (more + 52) = m * 2 ^ more * 2 ^ 52 := by rw [Nat.shiftLeft_eq, Nat.pow_add, Nat.mul_assoc]
  rw [hs, Nat.mul_div_cancel _ (Nat.two_pow_pos 52), Nat.mul_mod_left, show ((0 : Nat) != 0).toNat = 0 from rfl, Nat.add_zero]
  rcases Nat.eq_zero_or_pos m with h0 | h0
  · subst h0
    rw [Nat.zero_mul] at h2
    refine ⟨0, ?_, by decide, fun q hq => ?_, fun q _ => Nat.zero_le _⟩
    · simp only [Nat.zero_mul, Nat.mul_zero]; rfl
    · rw [h2] at hq
      have : u q ≤ u 0 := by rw [show u 0 = 0 from rfl]; omega
      exact u_le_iff.1 this
  · have hne : 2 * (m * 2 ^ more) ≠ 0 := by
      have := Nat.mul_pos h0 (Nat.two_pow_pos more)
      omega
    have hk : (0 : Int) ≤ (p - -51 - ((more + 52 : Nat) : Int) - 1) + 1074 + ((more + 53 : Nat) : Int) := by omega
    have hb := bracket (S x) (2 * (m * 2 ^ more)) (p - -51 - ((more + 52 : Nat) : Int) - 1) hne (more + 53) hk
    have e1 : ((p - -51 - ((more + 52 : Nat) : Int) - 1) + 1074 + ((more + 53 : Nat) : Int)).toNat = (p + 1074).toNat + 51 := by omega
    have e2 : 2 * (m * 2 ^ more) * 2 ^ ((p + 1074).toNat + 51) = u (R x) * 2 ^ (more + 52) := by
      rw [h2, Nat.pow_add, Nat.pow_add, show (2 : Nat) ^ 52 = 2 * 2 ^ 51 by decide]
      simp only [Nat.mul_assoc, Nat.mul_comm, Nat.mul_left_comm]
    rw [e1, e2] at hb
    have e3 : ∀ q, u q * 2 ^ (more + 53) = u q * 2 * 2 ^ (more + 52) := by
      intro q; rw [Nat.mul_assoc, Nat.mul_comm 2, ← Nat.pow_succ]
    have pp := Nat.two_pow_pos (more + 52)
    have b1 : ∀ q, u q * 2 ≤ u (R x) → q ≤ _ := fun q hq => (hb q).1 (by rw [e3]; exact Nat.mul_le_mul_right _ hq)
    have b2 : ∀ q, u (R x) ≤ u q * 2 → _ ≤ q := fun q hq => (hb q).2 (by rw [e3]; exact Nat.mul_le_mul_right _ hq)
    have hle := b2 (R x) (by omega)
    refine ⟨_, ?_, Nat.lt_of_le_of_lt hle h, b1, b2⟩
    show some (double.nearest _ _ _) = _
    rw [nearest_rung _ _ _ hne, Nat.min_eq_left]
    exact Nat.le_of_lt (Nat.lt_of_le_of_lt hle h)
end Go.Proofs.Ytnikcccobfcndaa.FT
