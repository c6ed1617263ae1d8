/- sorting floats: symMerge by induction, stableCmp's parts. -/
import Derived.Test.YtebfnmhpmgjoiaaSga
import Derived.Test.YtebfnmhpmgjoiaaSgb
namespace Go.Proofs.Ytebfnmhpmgjoiaa.Fl
open Go.RowKit FT SM
set_option linter.unusedVariables false
set_option linter.unusedSimpArgs false
theorem symMerge : ∀ k, SMC k := by
  intro k
  induction k with
  | zero => intro X A B Y N c g w hw hk hA; omega
  | succ k IH =>
    intro X A B Y N c g w hw hk hA0 hB0 hA hB hN hNd hs a m b ha hm hb
    by_cases h1 : A.length = 1
    · obtain ⟨x, rfl⟩ := List.length_eq_one_iff.1 h1
      exact symMerge1 X B Y x N c g w hw hB0 hB hN hNd hs a m b ha hm hb
    · by_cases h2 : B.length = 1
      · obtain ⟨y, rfl⟩ := List.length_eq_one_iff.1 h2
        exact symMerge2 X A Y y N c g w hw (by omega) hA (by simp at hN; omega) hNd hs a m b ha hm (by rw [hb]; simp)
      · by_cases h3 : (A.length + B.length) / 2 < A.length
        · exact symMerge3a k IH X A B Y N c g w hw hk (by omega) (by omega) h3 hA hB hN hNd hs a m b ha hm hb
        · exact symMerge3b k IH X A B Y N c g w hw hk (by omega) (by omega) (by omega) hA hB hN hNd hs a m b ha hm hb
/-- The first block is sorted. -/
structure St1 (w w' : World) (g : Nat) (A B Z : List Nat) : Prop where
  ex : ∃ A', Rw w' g (A' ++ (B ++ Z)) ∧ A'.Perm A ∧ Sd less A'
  bt : Bt g w w'
/-- Both blocks are sorted. -/
structure St2 (w w' : World) (g : Nat) (A B Z : List Nat) : Prop where
  ex : ∃ A' B', Rw w' g (A' ++ (B' ++ Z)) ∧ A'.Perm A ∧ Sd less A' ∧ B'.Perm B ∧ Sd less B'
  bt : Bt g w w'
theorem St1.of {w w' : World} {g : Nat} {A B Z : List Nat} (h : Srt w w' g [] A (B ++ Z)) : St1 w w' g A B Z := by
  obtain ⟨M, h1, h2, h3⟩ := h.ex
  exact ⟨⟨M, h1, h2, h3⟩, h.bt⟩
theorem ins2 {w W : World} {g : Nat} {A B Z : List Nat} (h : St1 w W g A B Z) (N c : Nat) (hA : A.length = 20) (hN : N = 20 + B.length) (hs : N ≤ 1000000) (b : Int) (hb : b = (N : Nat)) :
    Calls Try.prog 46 #[.slice (some ⟨g, 0, none⟩) N c, .int .i64 20, .int .i64 b, .func (.func 43) #[] #[]] W fun e w' => e = .returned (.tuple #[]) ∧ St2 w w' g A B Z := by
  obtain ⟨A', h1, h2, h3⟩ := h.ex
  have hl := h2.length_eq
  refine (insertionSort A' B Z N c g W h1 (by omega) (by simp only [List.length_append]; omega) hs 20 b (by omega) (by omega)).mono ?_
  rintro e1 W' ⟨rfl, hD⟩
  obtain ⟨M, k1, k2, k3⟩ := hD.ex
  exact ⟨rfl, ⟨A', M, k1, h2, h3, k2, k3⟩, h.bt.trans hD.bt⟩
theorem ins4 {w W : World} {g : Nat} {A B Z : List Nat} (h : St2 w W g A B Z) (N c : Nat) (hA : A.length = 20) (hB : B.length = 20) (hN : N = 40) (b : Int) (hb : b = (N : Nat)) :
    Calls Try.prog 46 #[.slice (some ⟨g, 0, none⟩) N c, .int .i64 40, .int .i64 b, .func (.func 43) #[] #[]] W fun e w' => e = .returned (.tuple #[]) ∧ St2 w w' g A B Z := by
  obtain ⟨A', B', h1, h2, h3, h4, h5⟩ := h.ex
  have hl := h2.length_eq
  have hl2 := h4.length_eq
  refine (insertionSort (A' ++ B') [] Z N c g W (by simpa using h1) (by simp; omega) (by simp; omega) (by omega) 40 b (by simp; omega) (by simp; omega)).mono ?_
  rintro e1 W' ⟨rfl, hD⟩
  obtain ⟨M, k1, k2, k3⟩ := hD.ex
  have hM : M = [] := List.eq_nil_of_length_eq_zero (by simpa using k2.length_eq)
  subst hM
  exact ⟨rfl, ⟨A', B', by simpa using k1, h2, h3, h4, h5⟩, h.bt.trans hD.bt⟩
theorem sym1 {w W : World} {g : Nat} {A B Z : List Nat} (h : St2 w W g A B Z) (N c : Nat) (hA : A.length = 20) (hB : 0 < B.length) (hN : N = 20 + B.length) (hs : N ≤ 1000000) (b : Int) (hb : b = (N : Nat)) :
    Calls Try.prog 47 #[.slice (some ⟨g, 0, none⟩) N c, .int .i64 0, .int .i64 20, .int .i64 b, .func (.func 43) #[] #[]] W fun e w' => e = .returned (.tuple #[]) ∧ Srt w w' g [] (A ++ B) Z := by
  obtain ⟨A', B', h1, h2, h3, h4, h5⟩ := h.ex
  have hl := h2.length_eq
  have hl2 := h4.length_eq
  refine (symMerge (A'.length + B'.length) [] A' B' Z N c g W h1 (Nat.le_refl _) (by omega) (by omega) h3 h5 (by simp; omega) (by simp; omega) hs 0 20 b rfl (by simp; omega) (by simp; omega)).mono ?_
  rintro e1 W' ⟨rfl, hD⟩
  obtain ⟨M, k1, k2, k3⟩ := hD.ex
  exact ⟨rfl, ⟨M, k1, k2.trans (h2.append h4), k3⟩, h.bt.trans hD.bt⟩
theorem St2.done {w W : World} {g : Nat} {A B Z : List Nat} (h : St2 w W g A B Z) (hB : B.length = 0) : Srt w W g [] (A ++ B) Z := by
  obtain ⟨A', B', h1, h2, h3, h4, h5⟩ := h.ex
  have hB' : B' = [] := List.eq_nil_of_length_eq_zero (by rw [h4.length_eq]; exact hB)
  have hB0 : B = [] := List.eq_nil_of_length_eq_zero hB
  subst hB'; subst hB0
  exact ⟨⟨A', by simpa using h1, by simpa using h2, h3⟩, h.bt⟩
end Go.Proofs.Ytebfnmhpmgjoiaa.Fl
