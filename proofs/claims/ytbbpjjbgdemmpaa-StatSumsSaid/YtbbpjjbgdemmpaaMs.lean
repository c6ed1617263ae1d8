/- StatSums: plain facts on counts. -/
import Derived.Test.YtbbpjjbgdemmpaaMf
namespace Go.Proofs.Ytbbpjjbgdemmpaa.PStat
open Go.RowKit Go.Proofs.YtbbpjjbgdemmpaaW.PrintWords Go.Proofs.YtbbpjjbgdemmpaaW.PrintLast Go.Proofs.YtbbpjjbgdemmpaaW.PrintMore
set_option linter.unusedVariables false
set_option linter.unusedSimpArgs false
/-- The first i kinds' counts together. -/
def sK (l : List S54) (i : Nat) : Nat := l.countP (fun x => decide (kk x < i))
theorem sK_zero (l : List S54) : sK l 0 = 0 := by
  unfold sK; rw [List.countP_eq_zero]; simp
theorem sK_succ (l : List S54) (i : Nat) : sK l (i + 1) = sK l i + cK l i := by
  unfold sK cK
  induction l with
  | nil => rfl
  | cons x t ih =>
    rw [List.countP_cons, List.countP_cons, List.countP_cons, ih]
    rcases Nat.lt_trichotomy (kk x) i with h | h | h
    · have h1 : kk x < i + 1 := by omega
      have h2 : ¬ kk x = i := by omega
      simp [h, h1, h2]; omega
    · have h1 : kk x < i + 1 := by omega
      have h2 : ¬ kk x < i := by omega
      simp [h]; omega
    · have h1 : ¬ kk x < i + 1 := by omega
      have h2 : ¬ kk x < i := by omega
      have h3 : ¬ kk x = i := by omega
      simp [h1, h2, h3]
theorem sK_all (l : List S54) : sK l 18 = l.length := by
  unfold sK; rw [List.countP_eq_length]; intro x _; exact decide_eq_true (kk_lt x)
theorem sK_le (l : List S54) (i : Nat) : sK l i ≤ l.length := List.countP_le_length
/-- How many have an error that is met among the first j. -/
def mE (l : List S54) (j : Nat) : Nat := l.countP (fun x => (l.take j).any fun y => decide (er y = er x))
theorem mE_zero (l : List S54) : mE l 0 = 0 := by
  unfold mE; rw [List.countP_eq_zero]; simp
theorem mE_all (l : List S54) : mE l l.length = l.length := by
  unfold mE; rw [List.take_length, List.countP_eq_length]
  intro x hx
  exact List.any_eq_true.2 ⟨x, hx, decide_eq_true rfl⟩
theorem mE_le (l : List S54) (j : Nat) : mE l j ≤ l.length := List.countP_le_length
/-- Whether the j-th is the first of its error, told of the first i. -/
def fst (l : List S54) (e : Int) (i : Nat) : Bool := (l.take i).all fun y => decide (er y ≠ e)
theorem fst_zero (l : List S54) (e : Int) : fst l e 0 = true := rfl
theorem fst_succ (l : List S54) (e : Int) (i : Nat) (h : i < l.length) : fst l e (i + 1) = (fst l e i && (er l[i] != e)) := by
  unfold fst
  rw [List.take_succ_eq_append_getElem h, List.all_append]
  rw [List.all_cons, List.all_nil, Bool.and_true]
  congr 1
  by_cases c : er l[i] = e <;> simp [c]
theorem countP_or (p q : S54 → Bool) (l : List S54) (hd : ∀ x, p x = true → q x = false) : l.countP (fun x => p x || q x) = l.countP p + l.countP q := by
  induction l with
  | nil => rfl
  | cons x t ih =>
    rw [List.countP_cons, List.countP_cons, List.countP_cons, ih]
    cases h1 : p x with
    | true => rw [hd x h1]; simp; omega
    | false => cases h2 : q x <;> simp <;> omega
theorem mE_succ (l : List S54) (j : Nat) (h : j < l.length) : mE l (j + 1) = mE l j + if fst l (er l[j]) j then cE l (er l[j]) else 0 := by
  have hs : ∀ x, ((l.take (j + 1)).any fun y => decide (er y = er x)) = (((l.take j).any fun y => decide (er y = er x)) || decide (er x = er l[j])) := fun x => by
    rw [List.take_succ_eq_append_getElem h, List.any_append]
    congr 1
    simp [eq_comm]
  unfold mE
  cases hf : fst l (er l[j]) j with
  | true =>
    rw [if_pos rfl]
    have hd : ∀ x, ((l.take j).any fun y => decide (er y = er x)) = true → decide (er x = er l[j]) = false := fun x hx => by
      obtain ⟨y, hy, he⟩ := List.any_eq_true.1 hx
      unfold fst at hf
      have := List.all_eq_true.1 hf y hy
      refine decide_eq_false (fun e => ?_)
      have h1 := of_decide_eq_true he
      have h2 := of_decide_eq_true this
      exact h2 (h1.trans e)
    have : l.countP (fun x => (l.take (j + 1)).any fun y => decide (er y = er x)) = l.countP (fun x => ((l.take j).any fun y => decide (er y = er x)) || decide (er x = er l[j])) := by
      congr 1; funext x; exact hs x
    rw [this, countP_or _ _ _ hd]
    rfl
  | false =>
    rw [if_neg (by decide), Nat.add_zero]
    congr 1
    funext x
    rw [hs]
    unfold fst at hf
    obtain ⟨y, hy, he⟩ := List.all_eq_false.1 hf
    have he : er y = er l[j] := by simpa using he
    by_cases c : er x = er l[j]
    · have : ((l.take j).any fun y => decide (er y = er x)) = true := List.any_eq_true.2 ⟨y, hy, decide_eq_true (by rw [he, c])⟩
      rw [this]; rfl
    · rw [decide_eq_false c, Bool.or_false]
theorem nF_eq (l : List S54) : nF l + cE l 0 = l.length := by
  unfold nF cE
  induction l with
  | nil => rfl
  | cons x t ih =>
    rw [List.countP_cons, List.countP_cons, List.length_cons]
    by_cases h : er x = 0
    · have hF : isF x = false := by simp [isF, h]
      rw [hF, if_neg (by decide), if_pos (decide_eq_true h)]; omega
    · have hF : isF x = true := by simp [isF, h]
      rw [hF, if_pos rfl, if_neg (by simpa using h)]; omega
theorem n_le (l : List S54) : nW l + nS l + nF l ≤ l.length := by
  unfold nF nW nS
  induction l with
  | nil => simp
  | cons x t ih =>
    rw [List.countP_cons, List.countP_cons, List.countP_cons, List.length_cons]
    have h3 : (if isW x = true then 1 else 0) + (if isS x = true then 1 else 0) + (if isF x = true then 1 else 0) ≤ 1 := by
      by_cases h : er x = 0
      · have hF : isF x = false := by simp [isF, h]
        rw [hF]
        cases hw : isW x with
        | true =>
          have : isS x = false := by
            unfold isW at hw; unfold isS
            simp [h] at hw
            rcases hw with hw | hw <;> simp [hw]
          rw [this]; simp
        | false => cases isS x <;> simp
      · have h1 : isW x = false := by simp [isW, h]
        have h2 : isS x = false := by simp [isS, h]
        rw [h1, h2]; cases isF x <;> simp
    omega
end Go.Proofs.Ytbbpjjbgdemmpaa.PStat
