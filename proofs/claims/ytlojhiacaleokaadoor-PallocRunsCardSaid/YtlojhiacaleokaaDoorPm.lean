/- palloc: the plain law of reading bits off words, of the least free page, of lists with one put in or taken out. No program in sight. -/
import Derived.Test.YtlojhiacaleokaaDoorPs
namespace Go.Proofs.YtlojhiacaleokaaDoor.Pa
open Go.RowKit
set_option linter.unusedVariables false
set_option linter.unusedSimpArgs false
theorem fr_skip (p : Nat → Bool) (a : Nat) : ∀ d, (∀ i, a ≤ i → i < a + d → p i = false) → (List.range (a + d)).filter p = (List.range a).filter p
  | 0, _ => rfl
  | d + 1, h => by
    rw [show a + (d + 1) = (a + d) + 1 by omega, List.range_succ, List.filter_append, fr_skip p a d (fun i h1 h2 => h i h1 (by omega)), List.filter_cons_of_neg (by rw [h (a + d) (by omega) (by omega)]; decide)]
    simp
theorem fr_snoc (p : Nat → Bool) (b : Nat) (h : p b = true) : (List.range (b + 1)).filter p = (List.range b).filter p ++ [b] := by
  rw [List.range_succ, List.filter_append, List.filter_cons_of_pos h]
  rfl
theorem bit_at (xs : List Nat) (k s : Nat) (hs : s < 64) : bit xs (64 * k + s) = (xs.getD k 0).testBit s := by
  unfold bit
  rw [show (64 * k + s) / 64 = k by omega, show (64 * k + s) % 64 = s by omega]
/-- The bits from r on of word k are still to be told. -/
structure Us (xs : List Nat) (k r : Nat) (out : List Nat) (x : Nat) : Prop where
  out : out = (List.range (64 * k + r)).filter (bit xs)
  r64 : r ≤ 64
  lt : x < 18446744073709551616
  bits : ∀ s, s < 64 → x.testBit s = ((xs.getD k 0).testBit s && decide (r ≤ s))
theorem Us.start (xs : List Nat) (k : Nat) (hl : xs.getD k 0 < 18446744073709551616) : Us xs k 0 ((List.range (64 * k)).filter (bit xs)) (xs.getD k 0) :=
  ⟨rfl, by omega, hl, fun s _ => by rw [decide_eq_true (Nat.zero_le s), Bool.and_true]⟩
theorem Us.step {xs : List Nat} {k r : Nat} {out : List Nat} {x : Nat} (h : Us xs k r out x) (h0 : x ≠ 0) : Us xs k (Lib.ctz 64 x + 1) (out ++ [64 * k + Lib.ctz 64 x]) (x &&& (x - 1)) ∧ Lib.ctz 64 x < 64 ∧ r ≤ Lib.ctz 64 x := by
  obtain ⟨m, hm, hk⟩ := ctz_is x h0 h.lt
  clear hm
  obtain ⟨h1, h2⟩ := ctz_bit x h0 h.lt
  have h3 := h.bits _ hk
  rw [h1] at h3
  have h4 := Bool.and_eq_true_iff.1 h3.symm
  have hr : r ≤ Lib.ctz 64 x := by simpa using h4.2
  have hl := low_bit x h0 h.lt
  generalize Lib.ctz 64 x = t at hk h1 h2 h3 h4 hr hl
  refine ⟨⟨?_, by omega, Nat.lt_of_le_of_lt Nat.and_le_left h.lt, ?_⟩, hk, hr⟩
  · rw [show 64 * k + (t + 1) = (64 * k + t) + 1 by omega, fr_snoc _ _ (by rw [bit_at xs k t hk]; exact h4.1), h.out]
    congr 1
    obtain ⟨d, rfl⟩ := Nat.exists_eq_add_of_le hr
    rw [← Nat.add_assoc]
    symm
    refine fr_skip _ _ _ fun i hi1 hi2 => ?_
    obtain ⟨s, rfl⟩ := Nat.exists_eq_add_of_le (show 64 * k ≤ i by omega)
    rw [bit_at xs k s (by omega)]
    have := h.bits s (by omega)
    rw [h2 s (by omega), decide_eq_true (by omega), Bool.and_true] at this
    exact this.symm
  · intro s hs
    rw [hl s]
    by_cases c : s < t
    · rw [h2 s c, Bool.false_and, decide_eq_false (show ¬ (t + 1 ≤ s) by omega), Bool.and_false]
    · rw [h.bits s hs, decide_eq_true (show r ≤ s by omega), Bool.and_true]
      congr 1
      rw [decide_eq_decide]
      omega
theorem Us.done {xs : List Nat} {k r : Nat} {out : List Nat} (h : Us xs k r out 0) : out = (List.range (64 * (k + 1))).filter (bit xs) := by
  rw [h.out]
  have hr := h.r64
  obtain ⟨d, hd⟩ := Nat.exists_eq_add_of_le hr
  rw [show 64 * (k + 1) = (64 * k + r) + d by omega]
  symm
  refine fr_skip _ _ _ fun i hi1 hi2 => ?_
  obtain ⟨s, rfl⟩ := Nat.exists_eq_add_of_le (show 64 * k ≤ i by omega)
  rw [bit_at xs k s (by omega)]
  have := h.bits s (by omega)
  rw [Nat.zero_testBit, decide_eq_true (by omega), Bool.and_true] at this
  exact this.symm
/-- The free bits of word k: all but page 0. -/
def freeb (x k : Nat) (s : Nat) : Bool := decide (s < 64) && !x.testBit s && !(decide (k = 0) && decide (s = 0))
theorem full_word (xs : List Nat) (k y : Nat) (hf : ∀ j, 1 ≤ j → j < 64 * k → bit xs j = true) (hy : ∀ s, y.testBit s = freeb (xs.getD k 0) k s) (h0 : y = 0) : ∀ j, 1 ≤ j → j < 64 * (k + 1) → bit xs j = true := by
  intro j h1 h2
  by_cases c : j < 64 * k
  · exact hf j h1 c
  · obtain ⟨s, rfl⟩ := Nat.exists_eq_add_of_le (show 64 * k ≤ j by omega)
    rw [bit_at xs k s (by omega)]
    have := hy s
    rw [h0, Nat.zero_testBit, freeb, decide_eq_true (show s < 64 by omega), Bool.true_and] at this
    have hz : (decide (k = 0) && decide (s = 0)) = false := by
      rw [Bool.and_eq_false_iff, decide_eq_false_iff_not, decide_eq_false_iff_not]; omega
    rw [hz, Bool.not_false, Bool.and_true] at this
    simpa using this.symm
theorem free_word (xs : List Nat) (k y : Nat) (hf : ∀ j, 1 ≤ j → j < 64 * k → bit xs j = true) (hy : ∀ s, y.testBit s = freeb (xs.getD k 0) k s) (h0 : y ≠ 0) (hl : y < 18446744073709551616) : Mex (ul xs) (64 * k + Lib.ctz 64 y) := by
  obtain ⟨m, hm, hk⟩ := ctz_is y h0 hl
  clear hm
  obtain ⟨h1, h2⟩ := ctz_bit y h0 hl
  generalize Lib.ctz 64 y = t at hk h1 h2
  have h3 := hy t
  rw [h1, freeb, decide_eq_true hk, Bool.true_and] at h3
  have h4 := Bool.and_eq_true_iff.1 h3.symm
  have hz : ¬ (k = 0 ∧ t = 0) := by
    have := h4.2
    simp only [Bool.not_eq_true', Bool.and_eq_false_iff, decide_eq_false_iff_not] at this
    omega
  refine ⟨by omega, ?_, ?_⟩
  · rw [mem_ul, bit_at xs k t hk]
    simpa using h4.1
  · intro j hj1 hj2
    rw [mem_ul]
    by_cases c : j < 64 * k
    · exact hf j hj1 c
    · obtain ⟨s, rfl⟩ := Nat.exists_eq_add_of_le (show 64 * k ≤ j by omega)
      rw [bit_at xs k s (by omega)]
      have := hy s
      rw [h2 s (by omega), freeb, decide_eq_true (show s < 64 by omega), Bool.true_and] at this
      have hz : (decide (k = 0) && decide (s = 0)) = false := by
        rw [Bool.and_eq_false_iff, decide_eq_false_iff_not, decide_eq_false_iff_not]; omega
      rw [hz, Bool.not_false, Bool.and_true] at this
      simpa using this.symm
/-- Where a page is free, its word has a free bit. -/
theorem word_free (xs : List Nat) (k j : Nat) (hf : ∀ j, 1 ≤ j → j < 64 * k → bit xs j = true) (h1 : 1 ≤ j) (hj : bit xs j = false) : 64 * k ≤ j := by
  apply Decidable.byContradiction
  intro hc
  rw [hf j h1 (by omega)] at hj
  cases hj
theorem Mex.le {n : Nat} {L : List Nat} {i : Nat} (h : Mex L i) (hs : L.Pairwise (· < ·)) (hin : In n L) (hl : L.length < n) : i ≤ n := by
  obtain ⟨j, h1, h2, h3⟩ := not_full n L hs hin hl
  apply Decidable.byContradiction
  intro hc
  exact h3 (h.low j h1 (by omega))
theorem low_len (L : List Nat) (i : Nat) (hs : L.Pairwise (· < ·)) (hin : ∀ x ∈ L, 1 ≤ x) (h : ∀ j, 1 ≤ j → j < i → j ∈ L) : i ≤ L.length + 1 := by
  have e : List.range' 1 (i - 1) = L.filter (fun x => decide (x < i)) := by
    refine sorted_ext _ _ (List.pairwise_lt_range' (s := 1)) (hs.filter _) fun x => ?_
    rw [List.mem_range'_1, List.mem_filter, decide_eq_true_iff]
    constructor
    · intro hx; exact ⟨h x (by omega) (by omega), by omega⟩
    · intro hx; have := hin x hx.1; omega
  have e2 := congrArg List.length e
  rw [List.length_range'] at e2
  have := List.length_filter_le (fun x => decide (x < i)) L
  omega
theorem ins_at (L : List Nat) (i k : Nat) (hs : L.Pairwise (· < ·)) (hn : i ∉ L) (hk : k ≤ L.length) (h1 : ∀ j (hj : j < L.length), j < k → L[j] < i) (h2 : ∀ (hj : k < L.length), i ≤ L[k]) : L.take k ++ i :: L.drop k = insL L i := by
  have ht : ∀ x ∈ L.take k, x < i := by
    intro x hx
    obtain ⟨j, hj, rfl⟩ := List.getElem_of_mem hx
    rw [List.getElem_take]
    rw [List.length_take] at hj
    exact h1 j (by omega) (by omega)
  have hd : ∀ x ∈ L.drop k, i < x := by
    intro x hx
    obtain ⟨j, hj, rfl⟩ := List.getElem_of_mem hx
    rw [List.length_drop] at hj
    rw [List.getElem_drop]
    have h3 := h2 (by omega)
    have h4 : L[k] ≤ L[k + j] := by
      by_cases c : j = 0
      · subst c; exact Nat.le_refl _
      · exact Nat.le_of_lt (List.pairwise_iff_getElem.1 hs k (k + j) (by omega) (by omega) (by omega))
    have h5 : L[k + j] ≠ i := fun e => hn (e ▸ List.getElem_mem _)
    omega
  unfold insL
  congr 1
  · conv => rhs; rw [← List.take_append_drop k L]
    rw [List.filter_append, List.filter_eq_self.2 (fun x hx => by simpa using ht x hx), List.filter_eq_nil_iff.2 (fun x hx => by have := hd x hx; simp; omega), List.append_nil]
  · congr 1
    conv => rhs; rw [← List.take_append_drop k L]
    rw [List.filter_append, List.filter_eq_nil_iff.2 (fun x hx => by have := ht x hx; simp; omega), List.filter_eq_self.2 (fun x hx => by simpa using hd x hx), List.nil_append]
theorem del_at (L : List Nat) (i k : Nat) (hs : L.Pairwise (· < ·)) (hk : k < L.length) (h : L[k] = i) : L.take k ++ L.drop (k + 1) = delL L i := by
  have hp := List.pairwise_iff_getElem.1 hs
  have ht : ∀ x ∈ L.take k, x ≠ i := by
    intro x hx
    obtain ⟨j, hj, rfl⟩ := List.getElem_of_mem hx
    rw [List.getElem_take]
    rw [List.length_take] at hj
    have := hp j k (by omega) hk (by omega)
    omega
  have hd : ∀ x ∈ L.drop (k + 1), x ≠ i := by
    intro x hx
    obtain ⟨j, hj, rfl⟩ := List.getElem_of_mem hx
    rw [List.length_drop] at hj
    rw [List.getElem_drop]
    have := hp k (k + 1 + j) hk (by omega) (by omega)
    omega
  unfold delL
  conv => rhs; rw [← List.take_append_drop k L, List.drop_eq_getElem_cons hk]
  rw [List.filter_append, List.filter_cons_of_neg (by simp [h]), List.filter_eq_self.2 (fun x hx => by simpa using ht x hx), List.filter_eq_self.2 (fun x hx => by simpa using hd x hx)]
end Go.Proofs.YtlojhiacaleokaaDoor.Pa
