/- palloc: the plain law of rows of pages. No program in sight. -/
import Derived.Test.YtlojhiacaleokaaDoorPm
namespace Go.Proofs.YtlojhiacaleokaaDoor.Pa
open Go.RowKit
set_option linter.unusedVariables false
set_option linter.unusedSimpArgs false
def flat (out : List (Nat × Nat)) : List Nat := out.flatMap fun r => List.range' r.1 (r.2 + 1 - r.1)
theorem flat_append (a b : List (Nat × Nat)) : flat (a ++ b) = flat a ++ flat b := by simp [flat]
theorem flat_one (r : Nat × Nat) : flat [r] = List.range' r.1 (r.2 + 1 - r.1) := by simp [flat]
/-- Rows that have M, each once, and lie apart. -/
structure Rr (out : List (Nat × Nat)) (M : List Nat) : Prop where
  flat : flat out = M
  pos : ∀ k (h : k < out.length), 1 ≤ out[k].1
  up : ∀ k (h : k < out.length), out[k].1 ≤ out[k].2
  gap : ∀ k (h : k + 1 < out.length), out[k].2 + 1 < out[k + 1].1
theorem Rr.nil : Rr [] [] := ⟨rfl, fun k h => by simp at h, fun k h => by simp at h, fun k h => by simp at h⟩
theorem Rr.mem {out : List (Nat × Nat)} {M : List Nat} (h : Rr out M) (k : Nat) (hk : k < out.length) : out[k].2 ∈ M := by
  rw [← h.flat, Pa.flat, List.mem_flatMap]
  refine ⟨out[k], List.getElem_mem hk, ?_⟩
  rw [List.mem_range'_1]
  have := h.up k hk
  omega
theorem Rr.new {out : List (Nat × Nat)} {M : List Nat} (h : Rr out M) (i : Nat) (h1 : 1 ≤ i) (hl : ∀ x ∈ M, x < i) (hg : ∀ (hk : 0 < out.length), out[out.length - 1].2 + 1 ≠ i) : Rr (out ++ [(i, i)]) (M ++ [i]) := by
  refine ⟨?_, ?_, ?_, ?_⟩
  · rw [flat_append, h.flat, flat_one]
    congr 1
    show List.range' i (i + 1 - i) = [i]
    rw [Nat.add_sub_cancel_left]
    rfl
  · intro k hk
    rw [List.getElem_append]
    split
    · exact h.pos k _
    · simpa using h1
  · intro k hk
    rw [List.getElem_append]
    split
    · exact h.up k _
    · simp
  · intro k hk
    rw [List.length_append, List.length_singleton] at hk
    rw [List.getElem_append_left (show k < out.length by omega), List.getElem_append]
    split
    · exact h.gap k _
    · rename_i hc
      have e : k = out.length - 1 := by omega
      have h3 := hl _ (h.mem k (by omega))
      have h4 := hg (by omega)
      have h5 : out[out.length - 1]'(by omega) = out[k]'(by omega) := by congr 1; omega
      rw [h5] at h4
      simp only [List.getElem_singleton]
      omega
theorem Rr.grow {out : List (Nat × Nat)} {M : List Nat} (a c : Nat) (h : Rr (out ++ [(a, c)]) M) (i : Nat) (hi : c + 1 = i) : Rr (out ++ [(a, i)]) (M ++ [i]) := by
  have hac : a ≤ c := by
    have := h.up out.length (by simp)
    simpa using this
  refine ⟨?_, ?_, ?_, ?_⟩
  · rw [← h.flat, flat_append, flat_append, flat_one, flat_one, List.append_assoc]
    congr 1
    show List.range' a (i + 1 - a) = List.range' a (c + 1 - a) ++ [i]
    rw [show i + 1 - a = (c + 1 - a) + 1 by omega, List.range'_concat]
    congr 2
    omega
  · intro k hk
    have := h.pos k (by simpa using hk)
    rw [List.getElem_append] at this ⊢
    split at this
    · rename_i hc; rw [dif_pos hc]; exact this
    · rename_i hc; rw [dif_neg hc]; simpa using this
  · intro k hk
    have := h.up k (by simpa using hk)
    rw [List.getElem_append] at this ⊢
    split at this
    · rename_i hc; rw [dif_pos hc]; exact this
    · rename_i hc; rw [dif_neg hc]; simp at this ⊢; omega
  · intro k hk
    have := h.gap k (by simpa using hk)
    rw [List.length_append, List.length_singleton] at hk
    rw [List.getElem_append_left (show k < out.length by omega), List.getElem_append] at this ⊢
    split at this
    · rename_i hc; rw [dif_pos hc]; exact this
    · rename_i hc; rw [dif_neg hc]; simpa using this
end Go.Proofs.YtlojhiacaleokaaDoor.Pa
