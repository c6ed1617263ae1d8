/- sorting floats: symMerge, where one row is of one. -/
import Derived.Test.YtebfnmhpmgjoiaaSc
namespace Go.Proofs.Ytebfnmhpmgjoiaa.Fl
open Go.RowKit FT SM
set_option linter.unusedVariables false
set_option linter.unusedSimpArgs false
attribute [local go_sem] run_store_float
/-- A number that lies between two, as the machine halves their sum. -/
theorem halfsum (P Q : Int) (h1 : 0 ≤ P) (h2 : 0 ≤ Q) (h3 : P ≤ 2000000) (h4 : Q ≤ 2000000) : wrap64 (IntKind.u64.wrap (wrap64 (P + Q)) / 2) = (P + Q) / 2 := by
  rw [wrap_small (P + Q) (by omega) (by omega), IntKind.wrap_u64, wrap_small _ (by omega) (by omega)]
  omega
/-- What a swap of two neighbours wants. -/
structure Nb (w : World) (g : Nat) (d d' : List Nat) (i j : Nat) (u v : Nat) : Prop where
  ci : w.cell? ⟨g, i, none⟩ = some (.float .f64 u)
  cj : w.cell? ⟨g, j, none⟩ = some (.float .f64 v)
  fi : w.frozen? ⟨g, i, none⟩ = false
  fj : w.frozen? ⟨g, j, none⟩ = false
  fj2 : (w.setCell ⟨g, i, none⟩ (.float .f64 v)).frozen? ⟨g, j, none⟩ = false
  done : Do w ((w.setCell ⟨g, i, none⟩ (.float .f64 v)).setCell ⟨g, j, none⟩ (.float .f64 u)).drew g d'
theorem Nb.mk' {w : World} {g : Nat} {d d' : List Nat} (h : Rw w g d) (i j : Nat) (hi : i < d.length) (hj : j < d.length) (hd : swp 0 d i j = d') : ∃ u v, Nb w g d d' i j u v :=
  ⟨d.getD i 0, d.getD j 0, h.cell i hi, h.cell j hj, h.frozen i, h.frozen j, (h.set i _).frozen j, by rw [← hd]; exact swap_do h i j⟩
theorem getD_mid (X B Y : List Nat) (x : Nat) (r : Nat) (hr : r < B.length) : (X ++ (x :: (B ++ Y))).getD (X.length + 1 + r) 0 = B.getD r 0 := by
  rw [List.getD_eq_getElem?_getD, List.getElem?_append_right (by omega), show X.length + 1 + r - X.length = r + 1 by omega, List.getElem?_cons_succ, List.getElem?_append_left hr, ← List.getD_eq_getElem?_getD]
theorem getD_at (X Y : List Nat) (x : Nat) : (X ++ (x :: Y)).getD X.length 0 = x := by
  rw [List.getD_eq_getElem?_getD, List.getElem?_append_right (Nat.le_refl _), Nat.sub_self]; rfl
theorem one_left (x : Nat) (B : List Nat) (p : Nat) (hB : Sd less B) (hp : p ≤ B.length) (h1 : p = 0 ∨ less (B.getD (p - 1) 0) x = true) (h2 : p = B.length ∨ less (B.getD p 0) x = false) : (B.take p ++ x :: B.drop p).Perm ([x] ++ B) ∧ Sd less (B.take p ++ x :: B.drop p) := by
  constructor
  · refine (List.perm_middle).trans ?_
    rw [List.take_append_drop]; exact List.Perm.refl _
  · refine one_in less_SW (by rw [List.take_append_drop]; exact hB) ?_ ?_
    · intro y hy
      rcases h1 with rfl | h1
      · simp at hy
      · have hne : p ≠ 0 := by rintro rfl; simp at hy
        have : B.getD (p - 1) 0 = y := by
          rw [List.getLast?_take, if_neg hne] at hy
          rw [List.getD_eq_getElem?_getD]
          cases hq : B[p - 1]? with
          | none => exact absurd (List.getElem?_eq_none_iff.1 hq) (by omega)
          | some z => rw [hq] at hy; simpa using hy
        rw [← this]
        exact less_asymm h1
    · intro y hy
      rcases h2 with rfl | h2
      · simp at hy
      · have : B.getD p 0 = y := by
          rw [List.head?_drop] at hy
          rw [List.getD_eq_getElem?_getD, hy]; rfl
        rw [← this]; exact h2
theorem one_right (y : Nat) (A : List Nat) (p : Nat) (hA : Sd less A) (hp : p ≤ A.length) (h1 : p = 0 ∨ less y (A.getD (p - 1) 0) = false) (h2 : p = A.length ∨ less y (A.getD p 0) = true) : (A.take p ++ y :: A.drop p).Perm (A ++ [y]) ∧ Sd less (A.take p ++ y :: A.drop p) := by
  constructor
  · refine (List.perm_middle).trans ?_
    rw [List.take_append_drop]
    exact (List.perm_append_singleton y A).symm
  · refine one_in less_SW (by rw [List.take_append_drop]; exact hA) ?_ ?_
    · intro z hz
      rcases h1 with rfl | h1
      · simp at hz
      · have hne : p ≠ 0 := by rintro rfl; simp at hz
        have : A.getD (p - 1) 0 = z := by
          rw [List.getLast?_take, if_neg hne] at hz
          rw [List.getD_eq_getElem?_getD]
          cases hq : A[p - 1]? with
          | none => exact absurd (List.getElem?_eq_none_iff.1 hq) (by omega)
          | some u => rw [hq] at hz; simpa using hz
        rw [← this]; exact h1
    · intro z hz
      rcases h2 with rfl | h2
      · simp at hz
      · have : A.getD p 0 = z := by
          rw [List.head?_drop] at hz
          rw [List.getD_eq_getElem?_getD, hz]; rfl
        rw [← this]
        exact less_asymm h2
/-- x stands behind t of B. -/
def stx (X B Y : List Nat) (x t : Nat) : List Nat := X ++ (B.take t ++ (x :: (B.drop t ++ Y)))
theorem stx_len (X B Y : List Nat) (x t : Nat) : (stx X B Y x t).length = X.length + B.length + 1 + Y.length := by
  unfold stx; simp only [List.length_append, List.length_cons, List.length_take, List.length_drop]; omega
theorem stx_step (X B Y : List Nat) (x t : Nat) (ht : t < B.length) : swp 0 (stx X B Y x t) (X.length + t) (X.length + t + 1) = stx X B Y x (t + 1) := by
  have e1 : stx X B Y x t = (X ++ B.take t) ++ x :: ([] ++ B[t] :: (B.drop (t + 1) ++ Y)) := by
    unfold stx
    rw [List.drop_eq_getElem_cons ht]
    simp only [List.append_assoc, List.cons_append, List.nil_append]
  rw [e1, swp_split 0 _ _ _ _ _ _ _ (by rw [List.length_append, List.length_take]; omega) (by rw [List.length_append, List.length_take]; simp; omega)]
  unfold stx
  rw [List.take_succ_eq_append_getElem ht]
  simp only [List.append_assoc, List.cons_append, List.nil_append]
theorem swp_swp (d : List Nat) (i j : Nat) (hi : i < d.length) (hj : j < d.length) : swp 0 (swp 0 d i j) i j = d := by
  apply List.ext_getElem?
  intro k
  have gi : ∀ (l : List Nat) (q : Nat) (hq : q < l.length), l.getD q 0 = l[q] := fun l q hq => by rw [List.getD_eq_getElem?_getD, List.getElem?_eq_getElem hq]; rfl
  unfold swp
  rw [gi d j hj, gi d i hi, gi _ j (by simpa using hj), gi _ i (by simpa using hi)]
  simp only [List.getElem?_set, List.getElem_set, List.length_set]
  by_cases h1 : j = k
  · subst h1
    simp [hj]
    by_cases h2 : i = j
    · subst h2; simp [hi]
    · simp [h2, Ne.symm h2, hj]
  · by_cases h2 : i = k
    · subst h2; simp [h1, hi]
    · simp [h1, h2]
theorem stx_back (X B Y : List Nat) (x t : Nat) (ht : t < B.length) : swp 0 (stx X B Y x (t + 1)) (X.length + t + 1) (X.length + t) = stx X B Y x t := by
  rw [← stx_step X B Y x t ht, swp_comm _ _ _ (by omega), swp_swp _ _ _ (by rw [stx_len]; omega) (by rw [stx_len]; omega)]
end Go.Proofs.Ytebfnmhpmgjoiaa.Fl
