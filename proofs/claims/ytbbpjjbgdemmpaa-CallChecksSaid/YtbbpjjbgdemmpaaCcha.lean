/- CallChecks: the pure part: what the program tells of a call is what the document's answer tells. -/
import Derived.Test.YtbbpjjbgdemmpaaPCallChecksx4d
import Derived.OpenShut
namespace Go.Proofs.Ytbbpjjbgdemmpaa.CallChecksW
open Go.RowKit Go.Proofs.YtbbpjjbgdemmpaaW.PrintWords PCallChecks
set_option linter.unusedVariables false
set_option linter.unusedSimpArgs false
theorem wrap64_in {x : Int} (h0 : -9223372036854775808 ≤ x) (h1 : x < 9223372036854775808) : wrap64 x = x := by unfold wrap64; omega
def W (a : Int) : ByteArray := if 0 ≤ a then call_Word.wd a.toNat else ⟨#[]⟩
theorem word_f (a : Int) : call_Word.f a = some (W a) := rfl
theorem wd_out {i : Nat} (h : 18 ≤ i) : call_Word.wd i = ⟨#[]⟩ := by
  unfold call_Word.wd; rw [List.getD_eq_getElem?_getD, List.getElem?_eq_none (by exact h)]; rfl
theorem W_out {a : Int} (h : a < 1 ∨ 17 < a) : W a = ⟨#[]⟩ := by
  unfold W
  split
  · rcases h with h | h
    · obtain rfl : a = 0 := by omega
      rfl
    · exact wd_out (by omega)
  · rfl
theorem refword_f (a : Int) : sumpref27_Word.f a = some (W a) := by
  unfold sumpref27_Word.f
  by_cases h : a < 1
  · rw [W_out (.inl h)]; simp [h]
  by_cases h2 : a > 17
  · rw [W_out (.inr h2)]; simp [h, h2]
  have : a = 1 ∨ a = 2 ∨ a = 3 ∨ a = 4 ∨ a = 5 ∨ a = 6 ∨ a = 7 ∨ a = 8 ∨ a = 9 ∨ a = 10 ∨ a = 11 ∨ a = 12 ∨ a = 13 ∨ a = 14 ∨ a = 15 ∨ a = 16 ∨ a = 17 := by omega
  rcases this with rfl | rfl | rfl | rfl | rfl | rfl | rfl | rfl | rfl | rfl | rfl | rfl | rfl | rfl | rfl | rfl | rfl <;> decide +kernel
theorem W_ne {a : Int} (h0 : 1 ≤ a) (h1 : a ≤ 17) : (W a).toList ≠ [] := by
  have : a = 1 ∨ a = 2 ∨ a = 3 ∨ a = 4 ∨ a = 5 ∨ a = 6 ∨ a = 7 ∨ a = 8 ∨ a = 9 ∨ a = 10 ∨ a = 11 ∨ a = 12 ∨ a = 13 ∨ a = 14 ∨ a = 15 ∨ a = 16 ∨ a = 17 := by omega
  rcases this with rfl | rfl | rfl | rfl | rfl | rfl | rfl | rfl | rfl | rfl | rfl | rfl | rfl | rfl | rfl | rfl | rfl <;> decide +kernel
theorem W_nil {a : Int} (h : a < 1 ∨ 17 < a) : (W a).toList = [] := by rw [W_out h]; exact L.empty_toList

theorem chk (a0 a1 a2 a3 a4 : Int) (a5 a6 : ByteArray) (l : List Int) (k : Nat) : ∃ v, call_Check.f a0 a1 a2 a3 a4 a5 a6 l = some v ∧ sumpref27_Check.f (k + 4) a0 a1 a2 a3 a4 a5 a6 l = some v := by
  unfold call_Check.f call_right.f sumpref27_Check.f
  rw [refword_f]
  simp only [Option.bind_some]
  by_cases hw : a0 < 1 ∨ 17 < a0
  · rw [if_pos (W_nil hw)]
    rw [if_neg (by omega), if_neg (by omega), if_neg (by omega), if_neg (by omega), if_neg (by omega), if_neg (by omega), if_neg (by omega), word_f]
    refine ⟨22, ?_, ?_⟩
    · simp [W_nil hw]
    · simp [sumpref27_Check.j0]
  rw [if_neg (W_ne (by omega) (by omega))]
  by_cases h1 : a0 = 1
  · subst h1
    simp only [if_true]
    by_cases c : a2 < 0
    · refine ⟨22, ?_, ?_⟩ <;> simp [c, sumpref27_Check.j0, show ¬ 0 ≤ a2 by omega]
    · by_cases c2 : a2 ≤ 31
      · refine ⟨0, ?_, ?_⟩ <;> simp [c, c2, sumpref27_Check.j0, sumpref27_Check.j1, show 0 ≤ a2 by omega, show ¬ 31 < a2 by omega]
      · refine ⟨22, ?_, ?_⟩ <;> simp [c, c2, sumpref27_Check.j0, show 0 ≤ a2 by omega, show 31 < a2 by omega]
  rw [if_neg h1, if_neg h1]
  by_cases h3 : a0 = 3
  · subst h3
    simp only [if_true]
    by_cases c : a3 < 0
    · refine ⟨22, ?_, ?_⟩ <;> simp [c, sumpref27_Check.j0, sumpref27_Check.j1, show ¬ 0 ≤ a3 by omega]
    · by_cases c2 : a3 ≤ 1024
      · refine ⟨0, ?_, ?_⟩ <;> simp [c, c2, sumpref27_Check.j0, sumpref27_Check.j1, show 0 ≤ a3 by omega, show ¬ 1024 < a3 by omega]
      · refine ⟨22, ?_, ?_⟩ <;> simp [c, c2, sumpref27_Check.j0, sumpref27_Check.j1, show 0 ≤ a3 by omega, show 1024 < a3 by omega]
  rw [if_neg h3]
  by_cases h5 : a0 = 5
  · subst h5
    simp only [if_true]
    by_cases c : a3 < 0
    · refine ⟨22, ?_, ?_⟩ <;> simp [c, sumpref27_Check.j0, sumpref27_Check.j1, show ¬ 0 ≤ a3 by omega]
    · by_cases c2 : a3 ≤ 1024
      · by_cases c3 : a4 < 0
        · refine ⟨22, ?_, ?_⟩ <;> simp [c, c2, c3, sumpref27_Check.j0, sumpref27_Check.j1, show 0 ≤ a3 by omega, show ¬ 1024 < a3 by omega, show ¬ 0 ≤ a4 by omega]
        · refine ⟨0, ?_, ?_⟩ <;> simp [c, c2, c3, sumpref27_Check.j0, sumpref27_Check.j1, show 0 ≤ a3 by omega, show ¬ 1024 < a3 by omega, show 0 ≤ a4 by omega]
      · refine ⟨22, ?_, ?_⟩ <;> simp [c, c2, sumpref27_Check.j0, sumpref27_Check.j1, show 0 ≤ a3 by omega, show 1024 < a3 by omega]
  rw [if_neg h5]
  by_cases h4 : a0 = 4
  · subst h4
    simp only [if_true]
    by_cases c : (l.length : Int) ≤ 1024
    · refine ⟨0, ?_, ?_⟩ <;> simp [sumpref27_Check.j0, sumpref27_Check.j1, show l.length ≤ 1024 by omega, show ¬ 1024 < (l.length : Int) by omega]
    · refine ⟨22, ?_, ?_⟩ <;> simp [sumpref27_Check.j0, sumpref27_Check.j1, show ¬ l.length ≤ 1024 by omega, show 1024 < (l.length : Int) by omega]
  rw [if_neg h4]
  by_cases h6 : a0 = 6
  · subst h6
    simp only [if_true]
    by_cases c : (l.length : Int) ≤ 1024
    · by_cases c3 : a4 < 0
      · refine ⟨22, ?_, ?_⟩ <;> simp [c3, sumpref27_Check.j0, sumpref27_Check.j1, show (l.length : Int) ≤ 1024 by omega, show ¬ 1024 < (l.length : Int) by omega, show ¬ 0 ≤ a4 by omega]
      · refine ⟨0, ?_, ?_⟩ <;> simp [c3, sumpref27_Check.j0, sumpref27_Check.j1, show (l.length : Int) ≤ 1024 by omega, show ¬ 1024 < (l.length : Int) by omega, show 0 ≤ a4 by omega]
    · refine ⟨22, ?_, ?_⟩ <;> simp [sumpref27_Check.j0, sumpref27_Check.j1, show ¬ (l.length : Int) ≤ 1024 by omega, show 1024 < (l.length : Int) by omega]
  rw [if_neg h6]
  by_cases h7 : a0 = 7
  · subst h7
    simp only [if_true]
    by_cases c3 : a4 < 0
    · refine ⟨22, ?_, ?_⟩ <;> simp [c3, sumpref27_Check.j0, sumpref27_Check.j1, show ¬ 0 ≤ a4 by omega]
    · refine ⟨0, ?_, ?_⟩ <;> simp [c3, sumpref27_Check.j0, sumpref27_Check.j1, show 0 ≤ a4 by omega]
  rw [if_neg h7]
  by_cases h15 : a0 = 15
  · subst h15
    simp only [if_true]
    by_cases c3 : a3 < 0
    · refine ⟨22, ?_, ?_⟩ <;> simp [c3, sumpref27_Check.j0, sumpref27_Check.j1, show ¬ 0 ≤ a3 by omega]
    · refine ⟨0, ?_, ?_⟩ <;> simp [c3, sumpref27_Check.j0, sumpref27_Check.j1, show 0 ≤ a3 by omega]
  rw [if_neg h15, word_f]
  refine ⟨0, ?_, ?_⟩
  · simp [W_ne (show 1 ≤ a0 by omega) (by omega)]
  · simp [sumpref27_Check.j0, sumpref27_Check.j1, h1, h3, h4, h5, h6, h7, h15]

def most (a0 : Int) (l : List Int) : Int := if (a0 = 4 ∨ a0 = 6) ∧ 0 < l.length then ((l.length : Int) + 255) / 256 + 2 else if a0 = 15 then 1 else 0
theorem most_f (a0 a1 a2 a3 a4 : Int) (a5 a6 : ByteArray) (l : List Int) (k : Nat) (hl : l.length ≤ 2000) : call_Most.f (k + 1) a0 a1 a2 a3 a4 a5 a6 l = some (most a0 l) := by
  have hw : 0 < l.length → wrap64 (wrap64 ((wrap64 ((l.length : Int) - 1)).tdiv 256) + 3) = ((l.length : Int) + 255) / 256 + 2 := by
    intro h
    rw [wrap64_in (x := (l.length : Int) - 1) (by omega) (by omega), Int.tdiv_eq_ediv_of_nonneg (by omega), wrap64_in (x := ((l.length : Int) - 1) / 256) (by omega) (by omega), wrap64_in (by omega) (by omega)]
    omega
  unfold call_Most.f call_Writes.f most
  by_cases h4 : a0 = 4
  · subst h4
    by_cases h : 0 < l.length
    · simp [call_Most.j0, h, hw h]
    · simp [call_Most.j0, h]
  by_cases h6 : a0 = 6
  · subst h6
    by_cases h : 0 < l.length
    · simp [call_Most.j0, h, hw h]
    · simp [call_Most.j0, h]
  by_cases h15 : a0 = 15
  · subst h15; simp [call_Most.j0]
  · simp [call_Most.j0, h4, h6, h15]
def has (a0 a2 f : Int) : Bool := if f = 1 ∨ f = 2 ∨ f = 4 ∨ f = 8 ∨ f = 16 then (if a0 = 1 then (Go.bits .and .i64 a2 f) != 0 else false) else false
theorem has_f (a0 a1 a2 a3 a4 : Int) (a5 a6 : ByteArray) (l : List Int) (f : Int) : call_Has.f a0 a1 a2 a3 a4 a5 a6 l f = some (has a0 a2 f) := by
  unfold call_Has.f has
  by_cases h1 : f = 1
  · subst h1; by_cases h : a0 = 1 <;> simp [h]
  by_cases h2 : f = 2
  · subst h2; by_cases h : a0 = 1 <;> simp [h]
  by_cases h4 : f = 4
  · subst h4; by_cases h : a0 = 1 <;> simp [h]
  by_cases h8 : f = 8
  · subst h8; by_cases h : a0 = 1 <;> simp [h]
  by_cases h16 : f = 16
  · subst h16; by_cases h : a0 = 1 <;> simp [h]
  simp [h1, h2, h4, h8, h16]
theorem same_f (a0 a1 a2 a3 a4 : Int) (a5 a6 : ByteArray) (l : List Int) (b0 b1 b2 b3 b4 : Int) (b5 b6 : ByteArray) (m : List Int) : ∃ v, call_Same.f a0 a1 a2 a3 a4 a5 a6 l b0 b1 b2 b3 b4 b5 b6 m = some v ∧ sumpref27_SameCall.f a0 a1 a2 a3 a4 a5 a6 l b0 b1 b2 b3 b4 b5 b6 m = some v := by
  unfold call_Same.f sumpref27_SameCall.f bytes_Equal.f
  simp only [Option.bind_some]
  repeat' split
  all_goals exact ⟨_, rfl, rfl⟩

theorem j5_f (a0 a1 a2 a3 a4 : Int) (a5 a6 : ByteArray) (l : List Int) (b0 b1 b2 b3 b4 : Int) (b5 b6 : ByteArray) (m : List Int) (kind f : Int) (hl : l.length ≤ 2000) :
    sumplaw25_CallChecks.j5 10 kind f (most a0 l) (has a0 a2 f) a0 a1 a2 a3 a4 a5 a6 l b0 b1 b2 b3 b4 b5 b6 m = some true := by
  obtain ⟨v, hv1, hv2⟩ := chk a0 a1 a2 a3 a4 a5 a6 l 5
  obtain ⟨s, hs1, hs2⟩ := same_f a0 a1 a2 a3 a4 a5 a6 l b0 b1 b2 b3 b4 b5 b6 m
  rw [show (10 : Nat) = 9 + 1 from rfl, sumplaw25_CallChecks.j5]
  rw [hv1, hv2]
  simp only [Option.bind_some, word_f, refword_f, hs1, hs2, most_f a0 a1 a2 a3 a4 a5 a6 l 8 hl, has_f]
  unfold call_Fds.f call_Writes.f
  by_cases h2 : a0 ≥ 2
  · by_cases h4 : a0 = 4
    · subst h4; simp
    · by_cases h6 : a0 = 6
      · subst h6; simp
      · simp [h2, h4, h6]
  · simp [h2, show ¬ a0 = 4 by omega, show ¬ a0 = 6 by omega]
theorem j4_f (a0 a1 a2 a3 a4 : Int) (a5 a6 : ByteArray) (l : List Int) (b0 b1 b2 b3 b4 : Int) (b5 b6 : ByteArray) (m : List Int) (kind f : Int) (hl : l.length ≤ 2000) (x : Bool) (hx : x = decide (f = 1 ∨ f = 2 ∨ f = 4 ∨ f = 8 ∨ f = 16)) :
    sumplaw25_CallChecks.j4 11 kind f (most a0 l) false x a0 a1 a2 a3 a4 a5 a6 l b0 b1 b2 b3 b4 b5 b6 m = some true := by
  have h5 := j5_f a0 a1 a2 a3 a4 a5 a6 l b0 b1 b2 b3 b4 b5 b6 m kind f hl
  rw [show (11 : Nat) = 10 + 1 from rfl, sumplaw25_CallChecks.j4]
  unfold has at h5
  by_cases hf : f = 1 ∨ f = 2 ∨ f = 4 ∨ f = 8 ∨ f = 16
  · rw [hx, decide_eq_true hf, if_pos rfl]
    rw [if_pos hf] at h5
    by_cases h : a0 = 1
    · rw [if_pos h]; rw [if_pos h] at h5; exact h5
    · rw [if_neg h]; rw [if_neg h] at h5; exact h5
  · rw [hx, decide_eq_false hf, if_neg (by simp)]
    rw [if_neg hf] at h5; exact h5
theorem j3_f (a0 a1 a2 a3 a4 : Int) (a5 a6 : ByteArray) (l : List Int) (b0 b1 b2 b3 b4 : Int) (b5 b6 : ByteArray) (m : List Int) (kind f : Int) (hl : l.length ≤ 2000) :
    sumplaw25_CallChecks.j3 12 kind f (most a0 l) a0 a1 a2 a3 a4 a5 a6 l b0 b1 b2 b3 b4 b5 b6 m = some true := by
  have h4 := j4_f a0 a1 a2 a3 a4 a5 a6 l b0 b1 b2 b3 b4 b5 b6 m kind f hl
  rw [show (12 : Nat) = 11 + 1 from rfl, sumplaw25_CallChecks.j3]
  by_cases h1 : f = 1
  · rw [if_pos h1]; exact h4 _ (by simp [h1])
  rw [if_neg h1]
  by_cases h2 : f = 2
  · rw [if_pos h2]; exact h4 _ (by simp [h2])
  rw [if_neg h2]
  by_cases h3 : f = 4
  · rw [if_pos h3]; exact h4 _ (by simp [h3])
  rw [if_neg h3]
  by_cases h5 : f = 8
  · rw [if_pos h5]; exact h4 _ (by simp [h5])
  rw [if_neg h5]
  exact h4 _ (by rw [Bool.eq_iff_iff]; simp [h1, h2, h3, h5])
theorem j2_f (a0 a1 a2 a3 a4 : Int) (a5 a6 : ByteArray) (l : List Int) (b0 b1 b2 b3 b4 : Int) (b5 b6 : ByteArray) (m : List Int) (kind f : Int) (hl : l.length ≤ 2000) (x : Int) (hx : a0 ≠ 15 → x = most a0 l) :
    sumplaw25_CallChecks.j2 13 kind f x a0 a1 a2 a3 a4 a5 a6 l b0 b1 b2 b3 b4 b5 b6 m = some true := by
  have h4 := j3_f a0 a1 a2 a3 a4 a5 a6 l b0 b1 b2 b3 b4 b5 b6 m kind f hl
  rw [show (13 : Nat) = 12 + 1 from rfl, sumplaw25_CallChecks.j2]
  by_cases h : a0 = 15
  · rw [if_pos h]
    subst h
    simpa [most] using h4
  · rw [if_neg h, hx h]; exact h4
theorem j1_f (a0 a1 a2 a3 a4 : Int) (a5 a6 : ByteArray) (l : List Int) (b0 b1 b2 b3 b4 : Int) (b5 b6 : ByteArray) (m : List Int) (kind f : Int) (hl : l.length ≤ 2000) (x : Bool) (hx : x = decide ((a0 = 4 ∨ a0 = 6) ∧ 0 < l.length)) :
    sumplaw25_CallChecks.j1 14 kind f 0 x a0 a1 a2 a3 a4 a5 a6 l b0 b1 b2 b3 b4 b5 b6 m = some true := by
  rw [show (14 : Nat) = 13 + 1 from rfl, sumplaw25_CallChecks.j1]
  by_cases h : (a0 = 4 ∨ a0 = 6) ∧ 0 < l.length
  · rw [hx, decide_eq_true h, if_pos rfl]
    refine j2_f a0 a1 a2 a3 a4 a5 a6 l b0 b1 b2 b3 b4 b5 b6 m kind f hl _ (fun _ => ?_)
    unfold most
    rw [if_pos h, wrap64_in (x := (l.length : Int) + 255) (by omega) (by omega), Int.tdiv_eq_ediv_of_nonneg (by omega), wrap64_in (x := ((l.length : Int) + 255) / 256) (by omega) (by omega), wrap64_in (by omega) (by omega)]
  · rw [hx, decide_eq_false h, if_neg (by simp)]
    refine j2_f a0 a1 a2 a3 a4 a5 a6 l b0 b1 b2 b3 b4 b5 b6 m kind f hl _ (fun hn => ?_)
    unfold most
    rw [if_neg h, if_neg hn]
theorem awake_f : sumplaw25_awake.f 16 = some true := by decide +kernel
theorem pure (a0 a1 a2 a3 a4 : Int) (a5 a6 : ByteArray) (l : List Int) (b0 b1 b2 b3 b4 : Int) (b5 b6 : ByteArray) (m : List Int) (kind f : Int) :
    sumplaw25_CallChecks.f 16 a0 a1 a2 a3 a4 a5 a6 l b0 b1 b2 b3 b4 b5 b6 m kind f = some true := by
  unfold sumplaw25_CallChecks.f
  rw [awake_f, Option.bind_some, if_pos rfl]
  have hj : ∀ x, (x = true ∨ l.length ≤ 2000) → sumplaw25_CallChecks.j0 16 kind f x a0 a1 a2 a3 a4 a5 a6 l b0 b1 b2 b3 b4 b5 b6 m = some true := by
    intro x hx
    rw [show (16 : Nat) = 15 + 1 from rfl, sumplaw25_CallChecks.j0]
    cases x with
    | true => rw [if_pos rfl]
    | false =>
      have hl : l.length ≤ 2000 := by simpa using hx
      rw [if_neg (by simp)]
      have h1 := j1_f a0 a1 a2 a3 a4 a5 a6 l b0 b1 b2 b3 b4 b5 b6 m kind f hl
      have mono : ∀ y, sumplaw25_CallChecks.j1 14 kind f 0 y a0 a1 a2 a3 a4 a5 a6 l b0 b1 b2 b3 b4 b5 b6 m = some true → sumplaw25_CallChecks.j1 15 kind f 0 y a0 a1 a2 a3 a4 a5 a6 l b0 b1 b2 b3 b4 b5 b6 m = some true := by
        intro y hy
        obtain ⟨_, h, _⟩ := sumplaw25_CallChecks.mono_l 14
        exact h _ _ _ _ _ _ _ _ _ _ _ _ _ _ _ _ _ _ _ _ _ hy
      by_cases h4 : a0 = 4
      · rw [if_pos h4]; exact mono _ (h1 _ (by subst h4; simp))
      rw [if_neg h4]
      by_cases h6 : a0 = 6
      · rw [if_pos h6]; exact mono _ (h1 _ (by subst h6; simp))
      rw [if_neg h6]
      exact mono _ (h1 _ (by simp [h4, h6]))
  unfold sumplaw25_Few.f
  by_cases h1 : (l.length : Int) ≤ 2000
  · rw [if_pos h1]
    repeat' split
    all_goals (try simp only [Option.bind_some])
    all_goals (repeat' split)
    all_goals exact hj _ (.inr (by omega))
  · rw [if_neg h1]
    simp only [Option.bind_some]
    rw [if_neg (by simp)]
    exact hj _ (.inl rfl)
end Go.Proofs.Ytbbpjjbgdemmpaa.CallChecksW
