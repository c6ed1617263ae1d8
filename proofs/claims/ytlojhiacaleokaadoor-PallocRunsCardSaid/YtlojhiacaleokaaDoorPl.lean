/- palloc: the plain law of words as sets of pages. No program in sight. -/
import Derived.Test.YtlojhiacaleokaaDoorPf
import Derived.Laws.BitsAllLaws
import Derived.Lib.TrailingZeros
namespace Go.Proofs.YtlojhiacaleokaaDoor.Pa
open Go.RowKit
set_option linter.unusedVariables false
set_option linter.unusedSimpArgs false
def bit (xs : List Nat) (i : Nat) : Bool := (xs.getD (i / 64) 0).testBit (i % 64)
/-- The pages that are used, rising. -/
def ul (xs : List Nat) : List Nat := (List.range (64 * xs.length)).filter (bit xs)
theorem sorted_ext : ∀ (a b : List Nat), a.Pairwise (· < ·) → b.Pairwise (· < ·) → (∀ x, x ∈ a ↔ x ∈ b) → a = b
  | [], [], _, _, _ => rfl
  | [], y :: t, _, _, h => by simpa using (h y).2 (by simp)
  | x :: s, [], _, _, h => by simpa using (h x).1 (by simp)
  | x :: s, y :: t, ha, hb, h => by
    rw [List.pairwise_cons] at ha hb
    have hxy : x = y := by
      have h1 := (h x).1 (by simp)
      have h2 := (h y).2 (by simp)
      rcases List.mem_cons.1 h1 with e | e
      · exact e
      · rcases List.mem_cons.1 h2 with f | f
        · exact f.symm
        · have := hb.1 _ e; have := ha.1 _ f; omega
    subst hxy
    congr 1
    refine sorted_ext s t ha.2 hb.2 fun z => ⟨fun hz => ?_, fun hz => ?_⟩
    · rcases List.mem_cons.1 ((h z).1 (List.mem_cons_of_mem _ hz)) with e | e
      · have := ha.1 _ hz; omega
      · exact e
    · rcases List.mem_cons.1 ((h z).2 (List.mem_cons_of_mem _ hz)) with e | e
      · have := hb.1 _ hz; omega
      · exact e
theorem ul_sorted (xs : List Nat) : (ul xs).Pairwise (· < ·) := List.Pairwise.filter _ List.pairwise_lt_range
theorem bit_lt (xs : List Nat) (i : Nat) (h : bit xs i = true) : i < 64 * xs.length := by
  apply Decidable.byContradiction
  intro hn
  unfold bit at h
  rw [List.getD_eq_getElem?_getD, List.getElem?_eq_none (by omega)] at h
  simp at h
theorem mem_ul (xs : List Nat) (i : Nat) : i ∈ ul xs ↔ bit xs i = true := by
  unfold ul
  rw [List.mem_filter, List.mem_range]
  exact ⟨fun h => h.2, fun h => ⟨bit_lt xs i h, h⟩⟩
theorem has_bit (n : Int) (xs : List Nat) (i : Nat) : has n xs (i : Int) = (wi n i && bit xs i) := by
  unfold has bit
  rw [show ((i : Int) / 64).toNat = i / 64 by omega, show ((i : Int) % 64).toNat = i % 64 by omega]
theorem bit_set (xs : List Nat) (i j y : Nat) (hi : i / 64 < xs.length) : bit (xs.set (i / 64) y) j = if j / 64 = i / 64 then y.testBit (j % 64) else bit xs j := by
  unfold bit
  rw [List.getD_eq_getElem?_getD, List.getElem?_set]
  by_cases c : j / 64 = i / 64
  · rw [if_pos c, if_pos c.symm, if_pos hi]; rfl
  · rw [if_neg c, if_neg (fun e => c e.symm), List.getD_eq_getElem?_getD]
theorem bit_put (xs : List Nat) (i j : Nat) (hi : i / 64 < xs.length) : bit (put xs (i : Int)) j = (bit xs j || decide (i = j)) := by
  unfold put
  rw [show ((i : Int) / 64).toNat = i / 64 by omega, show ((i : Int) % 64).toNat = i % 64 by omega, bit_set xs i j _ hi]
  by_cases c : j / 64 = i / 64
  · rw [if_pos c, or_bit, ← c]
    have : decide (i % 64 = j % 64) = decide (i = j) := by rw [decide_eq_decide]; omega
    rw [this]; rfl
  · rw [if_neg c]
    have : decide (i = j) = false := by rw [decide_eq_false_iff_not]; omega
    rw [this, Bool.or_false]
theorem clr_eq (x r : Nat) (hx : x < 18446744073709551616) (hr : r < 64) (s : Nat) : (clr x r).testBit s = (x.testBit s && !decide (r = s)) := by
  unfold clr
  have hp : 2 ^ r < 18446744073709551616 := Nat.lt_of_lt_of_le (Nat.pow_lt_pow_right (by decide) hr) (by decide : 2 ^ 64 ≤ 18446744073709551616)
  have e0 : (2 : Int) ^ r = ((2 ^ r : Nat) : Int) := by rw [Int.natCast_pow]; rfl
  have e : IntKind.u64.wrap ((2 : Int) ^ r) = ((2 ^ r : Nat) : Int) := by
    rw [e0]
    generalize 2 ^ r = P at hp ⊢
    rw [IntKind.wrap_u64]
    omega
  rw [e, u64_andNot_nat x _ hx hp, Int.toNat_natCast, Nat.testBit_and, show 18446744073709551615 - 2 ^ r = 2 ^ 64 - (2 ^ r + 1) by omega, Nat.testBit_two_pow_sub_succ (by omega), Nat.testBit_two_pow]
  by_cases c : s < 64
  · rw [decide_eq_true c, Bool.true_and]
  · have : x.testBit s = false := Nat.testBit_lt_two_pow (Nat.lt_of_lt_of_le hx (by
      have := Nat.pow_le_pow_right (show 0 < 2 by decide) (show 64 ≤ s by omega)
      have h64 : (2 : Nat) ^ 64 = 18446744073709551616 := by decide
      omega))
    rw [this]; rfl
theorem bit_del (xs : List Nat) (i j : Nat) (hi : i / 64 < xs.length) (hl : ∀ x ∈ xs, x < 18446744073709551616) : bit (del xs (i : Int)) j = (bit xs j && !decide (i = j)) := by
  unfold del
  rw [show ((i : Int) / 64).toNat = i / 64 by omega, show ((i : Int) % 64).toNat = i % 64 by omega, bit_set xs i j _ hi]
  by_cases c : j / 64 = i / 64
  · have hx : xs.getD (i / 64) 0 < 18446744073709551616 := by
      rw [List.getD_eq_getElem?_getD, List.getElem?_eq_getElem hi]
      exact hl _ (List.getElem_mem hi)
    rw [if_pos c, clr_eq _ _ hx (Nat.mod_lt _ (by decide)), ← c]
    have : decide (i % 64 = j % 64) = decide (i = j) := by rw [decide_eq_decide]; omega
    rw [this]; rfl
  · rw [if_neg c]
    have : decide (i = j) = false := by rw [decide_eq_false_iff_not]; omega
    rw [this, Bool.not_false, Bool.and_true]
/-- A sorted list with one put in. -/
def insL (l : List Nat) (i : Nat) : List Nat := l.filter (fun j => decide (j < i)) ++ i :: l.filter (fun j => decide (i < j))
theorem insL_sorted (l : List Nat) (i : Nat) (h : l.Pairwise (· < ·)) : (insL l i).Pairwise (· < ·) := by
  unfold insL
  rw [List.pairwise_append, List.pairwise_cons]
  refine ⟨h.filter _, ⟨?_, h.filter _⟩, ?_⟩
  · intro a ha; simpa using (List.mem_filter.1 ha).2
  · intro a ha b hb
    have h1 : a < i := by simpa using (List.mem_filter.1 ha).2
    rcases List.mem_cons.1 hb with e | e
    · omega
    · have h2 : i < b := by simpa using (List.mem_filter.1 e).2
      omega
theorem mem_insL (l : List Nat) (i x : Nat) : x ∈ insL l i ↔ x = i ∨ x ∈ l := by
  unfold insL
  rw [List.mem_append, List.mem_cons, List.mem_filter, List.mem_filter, decide_eq_true_iff, decide_eq_true_iff]
  constructor
  · rintro (h | h | h)
    · exact Or.inr h.1
    · exact Or.inl h
    · exact Or.inr h.1
  · rintro (h | h)
    · exact Or.inr (Or.inl h)
    · rcases Nat.lt_trichotomy x i with c | c | c
      · exact Or.inl ⟨h, c⟩
      · exact Or.inr (Or.inl c)
      · exact Or.inr (Or.inr ⟨h, c⟩)
theorem ul_put (xs : List Nat) (i : Nat) (hi : i / 64 < xs.length) : ul (put xs (i : Int)) = insL (ul xs) i := by
  refine sorted_ext _ _ (ul_sorted _) (insL_sorted _ _ (ul_sorted _)) fun x => ?_
  rw [mem_ul, mem_insL, mem_ul, bit_put xs i x hi, Bool.or_eq_true, decide_eq_true_iff]
  constructor
  · rintro (h | h)
    · exact Or.inr h
    · exact Or.inl h.symm
  · rintro (h | h)
    · exact Or.inr h.symm
    · exact Or.inl h
def delL (l : List Nat) (i : Nat) : List Nat := l.filter (fun j => decide (j ≠ i))
theorem ul_del (xs : List Nat) (i : Nat) (hi : i / 64 < xs.length) (hl : ∀ x ∈ xs, x < 18446744073709551616) : ul (del xs (i : Int)) = delL (ul xs) i := by
  refine sorted_ext _ _ (ul_sorted _) ((ul_sorted _).filter _) fun x => ?_
  rw [mem_ul, delL, List.mem_filter, mem_ul, bit_del xs i x hi hl, Bool.and_eq_true, Bool.not_eq_true', decide_eq_false_iff_not, decide_eq_true_iff]
  exact ⟨fun h => ⟨h.1, fun e => h.2 e.symm⟩, fun h => ⟨h.1, fun e => h.2 e.symm⟩⟩
theorem split_len (l : List Nat) (i : Nat) (hn : i ∉ l) : (l.filter (fun j => decide (j < i))).length + (l.filter (fun j => decide (i < j))).length = l.length := by
  induction l with
  | nil => rfl
  | cons x t ih =>
    have h1 : x ≠ i := fun e => hn (by simp [e])
    have h2 := ih (fun e => hn (List.mem_cons_of_mem _ e))
    rw [List.filter_cons, List.filter_cons]
    by_cases c : x < i
    · rw [if_pos (by simpa using c), if_neg (by simp; omega), List.length_cons, List.length_cons]; omega
    · rw [if_neg (by simpa using c), if_pos (by simp; omega), List.length_cons, List.length_cons]; omega
theorem insL_len (l : List Nat) (i : Nat) (hn : i ∉ l) : (insL l i).length = l.length + 1 := by
  have := split_len l i hn
  unfold insL
  rw [List.length_append, List.length_cons]; omega
theorem delL_insL (l : List Nat) (i : Nat) (h : l.Pairwise (· < ·)) (hi : i ∈ l) : insL (delL l i) i = l := by
  refine sorted_ext _ _ (insL_sorted _ _ (h.filter _)) h fun x => ?_
  rw [mem_insL, delL, List.mem_filter, decide_eq_true_iff]
  constructor
  · rintro (e | e)
    · rw [e]; exact hi
    · exact e.1
  · intro hx
    by_cases c : x = i
    · exact Or.inl c
    · exact Or.inr ⟨hx, c⟩
theorem delL_not (l : List Nat) (i : Nat) : i ∉ delL l i := by
  rw [delL, List.mem_filter, decide_eq_true_iff]
  exact fun h => h.2 rfl
theorem delL_len (l : List Nat) (i : Nat) (h : l.Pairwise (· < ·)) (hi : i ∈ l) : (delL l i).length + 1 = l.length := by
  have := insL_len (delL l i) i (delL_not l i)
  rw [delL_insL l i h hi] at this; omega
/-- Pages are 1 to n. -/
def In (n : Nat) (l : List Nat) : Prop := ∀ i ∈ l, 1 ≤ i ∧ i ≤ n
theorem as_filter (n : Nat) (l : List Nat) (hs : l.Pairwise (· < ·)) (h : In n l) : l = (List.range' 1 n).filter (fun i => decide (i ∈ l)) := by
  refine sorted_ext _ _ hs ((List.pairwise_lt_range' (s := 1) (n := n)).filter _) fun x => ?_
  rw [List.mem_filter, List.mem_range'_1, decide_eq_true_iff]
  exact ⟨fun hx => ⟨by have := h x hx; omega, hx⟩, fun hx => hx.2⟩
theorem len_le (n : Nat) (l : List Nat) (hs : l.Pairwise (· < ·)) (h : In n l) : l.length ≤ n := by
  rw [as_filter n l hs h]
  exact Nat.le_trans (List.length_filter_le _ _) (by rw [List.length_range']; exact Nat.le_refl n)
theorem full (n : Nat) (l : List Nat) (hs : l.Pairwise (· < ·)) (h : In n l) (hl : l.length = n) (i : Nat) (h1 : 1 ≤ i) (h2 : i ≤ n) : i ∈ l := by
  have e := congrArg List.length (as_filter n l hs h)
  have e2 : ((List.range' 1 n).filter (fun i => decide (i ∈ l))).length = (List.range' 1 n).length := by rw [List.length_range']; omega
  have := List.length_filter_eq_length_iff.1 e2 i (by rw [List.mem_range'_1]; omega)
  simpa using this
theorem not_full (n : Nat) (l : List Nat) (hs : l.Pairwise (· < ·)) (h : In n l) (hl : l.length < n) : ∃ i, 1 ≤ i ∧ i ≤ n ∧ i ∉ l := by
  apply Classical.byContradiction
  intro hc
  have e2 : ((List.range' 1 n).filter (fun i => decide (i ∈ l))).length = (List.range' 1 n).length := by
    refine List.length_filter_eq_length_iff.2 fun i hi => ?_
    rw [List.mem_range'_1] at hi
    apply Classical.byContradiction
    intro hn
    exact hc ⟨i, by omega, by omega, by simpa using hn⟩
  have e := congrArg List.length (as_filter n l hs h)
  rw [List.length_range'] at e2; omega
/-- The least page that isn't used. -/
structure Mex (l : List Nat) (i : Nat) : Prop where
  pos : 1 ≤ i
  out : i ∉ l
  low : ∀ j, 1 ≤ j → j < i → j ∈ l
theorem Mex.unique {l : List Nat} {i j : Nat} (h : Mex l i) (k : Mex l j) : i = j := by
  rcases Nat.lt_trichotomy i j with c | c | c
  · exact absurd (k.low i h.pos c) h.out
  · exact c
  · exact absurd (h.low j k.pos c) k.out
theorem ctz_is (x : Nat) (h0 : x ≠ 0) (h : x < 18446744073709551616) : ∃ m, x = 2 ^ (Lib.ctz 64 x) * (2 * m + 1) ∧ Lib.ctz 64 x < 64 := by
  obtain ⟨m, hm, hk⟩ := Lib.ctzFrom_spec 64 x (by omega) h
  have e : Lib.ctz 64 x = Lib.ctzFrom 64 x := by simp [Lib.ctz, h0]
  rw [e]
  exact ⟨m, hm, hk⟩
theorem ctz_bit (x : Nat) (h0 : x ≠ 0) (h : x < 18446744073709551616) : x.testBit (Lib.ctz 64 x) = true ∧ ∀ s, s < Lib.ctz 64 x → x.testBit s = false := by
  obtain ⟨m, hm, hk⟩ := ctz_is x h0 h
  generalize Lib.ctz 64 x = k at hm hk
  subst hm
  refine ⟨?_, fun s hs => ?_⟩
  · rw [Nat.testBit_two_pow_mul, Nat.sub_self, decide_eq_true (Nat.le_refl k), Bool.true_and, Nat.testBit_zero]
    simp [Nat.add_mod]
  · rw [Nat.testBit_two_pow_mul, decide_eq_false (by omega), Bool.false_and]
theorem low_bit (x : Nat) (h0 : x ≠ 0) (h : x < 18446744073709551616) (s : Nat) : (x &&& (x - 1)).testBit s = (x.testBit s && decide (Lib.ctz 64 x ≠ s)) := by
  obtain ⟨m, hm, hk⟩ := ctz_is x h0 h
  generalize Lib.ctz 64 x = k at hm hk
  subst hm
  have hp : 0 < 2 ^ k := Nat.pow_pos (by decide)
  have e1 : 2 ^ k * (2 * m + 1) = 2 ^ (k + 1) * m + 2 ^ k := by rw [Nat.pow_succ, Nat.mul_add, Nat.mul_one, Nat.mul_assoc]
  have e2 : 2 ^ k * (2 * m + 1) - 1 = 2 ^ (k + 1) * m + (2 ^ k - 1) := by rw [e1]; omega
  have hlt : 2 ^ k < 2 ^ (k + 1) := Nat.pow_lt_pow_right (by decide) (by omega)
  rw [Nat.testBit_and, e2, Nat.testBit_two_pow_mul_add _ (show 2 ^ k - 1 < 2 ^ (k + 1) by omega), e1, Nat.testBit_two_pow_mul_add _ hlt]
  by_cases c : s < k + 1
  · rw [if_pos c, if_pos c, Nat.testBit_two_pow, Nat.testBit_two_pow_sub_one]
    by_cases d : k = s
    · subst d; simp
    · simp [d]
  · rw [if_neg c, if_neg c, decide_eq_true (show k ≠ s by omega), Bool.and_true, Bool.and_self]
end Go.Proofs.YtlojhiacaleokaaDoor.Pa
