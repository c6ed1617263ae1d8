/- FloatTotal: the walk. -/
import Derived.Test.YtnikcccobfcndaaFa
namespace Go.Proofs.Ytnikcccobfcndaa.Fl
open Go.RowKit FT
set_option linter.unusedVariables false
theorem less_irr (x : Nat) : less x x = false := by unfold less; rw [if_pos rfl]; simp
theorem same_refl (x : Nat) : same x x = true := by unfold same; rw [less_irr]; rfl
theorem less_asymm {x y : Nat} (h : less x y = true) : less y x = false := by
  unfold less at *
  by_cases k : cls x = cls y
  · rw [if_pos k] at h; rw [if_pos k.symm]; simp at h ⊢; intro _ _; omega
  · rw [if_neg k] at h; rw [if_neg (fun e => k e.symm)]; simp at h ⊢; omega
/-- Class and value, but for a NaN, say all. -/
def KN (x : Nat) : Prop := N x = true ↔ cls x = 0
theorem kn (x : Nat) : N x = true ↔ cls x = 0 := by
  unfold cls
  by_cases k : N x = true
  · rw [if_pos k]; simp [k]
  · rw [if_neg k]; simp only [k, Bool.false_eq_true, false_iff]
    repeat' split
    all_goals decide
theorem less_trans {x y z : Nat} (h1 : less x y = true) (h2 : less y z = true) : less x z = true := by
  unfold less at *
  by_cases a : cls x = cls y <;> by_cases b : cls y = cls z
  · rw [if_pos a] at h1; rw [if_pos b] at h2; rw [if_pos (a.trans b)]; simp at h1 h2 ⊢; exact ⟨⟨h1.1.1, h2.1.2⟩, by omega⟩
  · rw [if_neg b] at h2; rw [if_neg (by omega)]; simp at h2 ⊢; omega
  · rw [if_neg a] at h1; rw [if_neg (by omega)]; simp at h1 ⊢; omega
  · rw [if_neg a] at h1; rw [if_neg b] at h2; simp at h1 h2; rw [if_neg (by omega)]; simp; omega
theorem same_cls {x y : Nat} (h : same x y = true) : cls x = cls y ∧ (cls x ≠ 0 → W x = W y) := by
  unfold same less at h
  by_cases a : cls x = cls y
  · refine ⟨a, fun h0 => ?_⟩
    have nx : N x = false := by cases hn : N x with | false => rfl | true => exact absurd ((kn x).1 hn) h0
    have ny : N y = false := by cases hn : N y with | false => rfl | true => exact absurd ((kn y).1 hn) (a ▸ h0)
    rw [if_pos a, if_pos a.symm, nx, ny] at h
    simp at h; omega
  · rw [if_neg a, if_neg (fun e => a e.symm)] at h
    simp at h; omega
theorem same_less {x y : Nat} (z : Nat) (h : same x y = true) : less x z = less y z := by
  obtain ⟨a, b⟩ := same_cls h
  unfold less
  rw [a]
  by_cases c : cls y = cls z
  · rw [if_pos c, if_pos c]
    by_cases d : cls y = 0
    · rw [(kn x).2 (a.trans d), (kn y).2 d]; rfl
    · have nx : N x = false := by cases hn : N x with | false => rfl | true => exact absurd ((kn x).1 hn) (a ▸ d)
      have ny : N y = false := by cases hn : N y with | false => rfl | true => exact absurd ((kn y).1 hn) d
      rw [nx, ny, b (a ▸ d)]
  · rw [if_neg c, if_neg c]
theorem same_less' {x y : Nat} (z : Nat) (h : same x y = true) : less z x = less z y := by
  obtain ⟨a, b⟩ := same_cls h
  unfold less
  rw [a]
  by_cases c : cls z = cls y
  · rw [if_pos c, if_pos c]
    by_cases d : cls y = 0
    · rw [(kn z).2 (c.trans d)]; rfl
    · have nx : N x = false := by cases hn : N x with | false => rfl | true => exact absurd ((kn x).1 hn) (a ▸ d)
      have ny : N y = false := by cases hn : N y with | false => rfl | true => exact absurd ((kn y).1 hn) d
      rw [nx, ny, b (a ▸ d)]
  · rw [if_neg c, if_neg c]
theorem same_symm (x y : Nat) : same x y = same y x := by unfold same; exact Bool.and_comm _ _
end Go.Proofs.Ytnikcccobfcndaa.Fl
