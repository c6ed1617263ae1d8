/- FloatTotal: the walk. -/
import Derived.Test.YtebfnmhpmgjoiaaFa
namespace Go.Proofs.Ytebfnmhpmgjoiaa.Fl
open Go.RowKit FT
set_option linter.unusedVariables false
theorem less_irr (x : Nat) : less x x = false := by unfold less; rw [if_pos rfl]; simp
theorem same_refl (x : Nat) : same x x = true := by unfold same; rw [less_irr]; rfl
theorem less_asymm {x y : Nat} (h : less x y = true) : less y x = false := by
  unfold less at *
  by_cases k : cls x = cls y
  · rw [if_pos k] at h; rw [if_pos k.symm]; simp at h ⊢; intro _ _; omega
  · rw [if_neg k] at h; rw [if_neg (fun e => k e.symm)]; simp at h ⊢; omega
/-- Class and value, but for a NaN, say all. -/
def KN (x : Nat) : Prop := N x = true ↔ cls x = 0
theorem kn (x : Nat) : N x = true ↔ cls x = 0 := by
  unfold cls
  by_cases k : N x = true
  · rw [if_pos k]; simp [k]
  · rw [if_neg k]; simp only [k, Bool.false_eq_true, false_iff]
    repeat' split
    all_goals decide
theorem less_trans {x y z : Nat} (h1 : less x y = true) (h2 : less y z = true) : less x z = true := by
  unfold less at *
  by_cases a : cls x = cls y <;> by_cases b : cls y = cls z
  · rw [if_pos a] at h1; rw [if_pos b] at h2; rw [if_pos (a.trans b)]; simp at h1 h2 ⊢; exact ⟨⟨h1.1.1, h2.1.2⟩, by omega⟩
  · rw [if_neg b] at h2; rw [if_neg (by omega)]; simp at h2 ⊢; omega
  · rw [if_neg a] at h1; rw [if_neg (by omega)]; simp at h1 ⊢; omega
  · rw [if_neg a] at h1; rw [if_neg b] at h2; simp at h1 h2; rw [if_neg (by omega)]; simp; omega
theorem same_cls {x y : Nat} (h : same x y = true) : cls x = cls y ∧ (cls x ≠ 0 → W x = W y) := by
  unfold same less at h
  by_cases a : cls x = cls y
  · refine ⟨a, fun h0 => ?_⟩
    have nx : N x = false := by cases hn : N x with | false => rfl | true => exact absurd ((kn x).1 hn) h0
    have ny : N y = false := by cases hn : N y with | false => rfl | true => exact absurd ((kn y).1 hn) (a ▸ h0)
    rw [if_pos a, if_pos a.symm, nx, ny] at h
    simp at h; omega
  · rw [if_neg a, if_neg (fun e => a e.symm)] at h
    simp at h; omega
theorem same_less {x y : Nat} (z : Nat) (h : same x y = true) : less x z = less y z := by
  obtain ⟨a, b⟩ := same_cls h
  unfold less
  rw [a]
  by_cases c : cls y = cls z
  · rw [if_pos c, if_pos c]
    by_cases d : cls y = 0
    · rw [(kn x).2 (a.trans d), (kn y).2 d]; rfl
    · have nx : N x = false := by cases hn : N x with | false => rfl | true => exact absurd ((kn x).1 hn) (a ▸ d)
      have ny : N y = false := by cases hn : N y with | false => rfl | true => exact absurd ((kn y).1 hn) d
      rw [nx, ny, b (a ▸ d)]
  · rw [if_neg c, if_neg c]
theorem same_less' {x y : Nat} (z : Nat) (h : same x y = true) : less z x = less z y := by
  obtain ⟨a, b⟩ := same_cls h
  unfold less
  rw [a]
  by_cases c : cls z = cls y
  · rw [if_pos c, if_pos c]
    by_cases d : cls y = 0
    · rw [(kn z).2 (c.trans d)]; rfl
    · have nx : N x = false := by cases hn : N x with | false => rfl | true => exact absurd ((kn x).1 hn) (a ▸ d)
      have ny : N y = false := by cases hn : N y with | false => rfl | true => exact absurd ((kn y).1 hn) d
      rw [nx, ny, b (a ▸ d)]
  · rw [if_neg c, if_neg c]
theorem same_symm (x y : Nat) : same x y = same y x := by unfold same; exact Bool.and_comm _ _
set_option maxHeartbeats 4000000 in
theorem total_walk (x y z : Nat) (w : World) (w0 : (Lit.float .f64 x).wf = true) (w1 : (Lit.float .f64 y).wf = true) (w2 : (Lit.float .f64 z).wf = true) :
    Calls Try.prog 3 #[.float .f64 x, .float .f64 y, .float .f64 z] w fun e w' => e = .returned (.bool true) ∧ Below w.heap.size w w' := by
  have HB := Below.refl w.heap.size w
  have hxx := less_irr x
  have hsx := same_refl x
  obtain ⟨a, ha⟩ : ∃ a, less x y = a := ⟨_, rfl⟩
  obtain ⟨b, hb⟩ : ∃ b, less y x = b := ⟨_, rfl⟩
  obtain ⟨c, hc⟩ : ∃ c, same x y = c := ⟨_, rfl⟩
  obtain ⟨d, hd⟩ : ∃ d, less y z = d := ⟨_, rfl⟩
  obtain ⟨e, he⟩ : ∃ e, less x z = e := ⟨_, rfl⟩
  obtain ⟨u, hu⟩ : ∃ u, cls x = u := ⟨_, rfl⟩
  obtain ⟨v, hv⟩ : ∃ v, cls y = v := ⟨_, rfl⟩
  have f1 : c = (!a && !b) := by rw [← hc, ← ha, ← hb]; rfl
  have f2 : a = true → b = false := by intro h; rw [← hb]; exact less_asymm (ha.trans h)
  have f3 : a = true → d = true → e = true := by intro h1 h2; rw [← he]; exact less_trans (ha.trans h1) (hd.trans h2)
  have f4 : c = true → e = d := by intro h; rw [← he, ← hd]; exact same_less z (hc.trans h)
  have f5 : c = true → (u == v) = true := by intro h; rw [← hu, ← hv]; exact beq_iff_eq.mpr (same_cls (hc.trans h)).1
  have arm := fun (w : World) => (⟨awake_calls w, less_calls x y a w ha, less_calls y x b w hb, same_calls x y c w hc, less_calls x x false w hxx, same_calls x x true w hsx, less_calls y z d w hd⟩ : _ ∧ _ ∧ _ ∧ _ ∧ _ ∧ _ ∧ _)
  have arm2 := fun (w : World) => (⟨less_calls x z e w he, class_calls x u w hu, class_calls y v w hv⟩ : _ ∧ _ ∧ _)
  clear hxx hsx ha hb hc hd he hu hv
  cases a with
  | true =>
    obtain rfl := f2 rfl
    obtain rfl : c = false := f1
    cases d with
    | true =>
      obtain rfl := f3 rfl rfl
      clear f2 f3 f4 f5
      go_enter Try.func3, Try.ntmps3
      go_wp2_with (first | (go_at_call 10; with_reducible refine (arm _).1.mono ?_; rintro e w1 ⟨rfl, rfl⟩) | (go_at_call 11; with_reducible refine (arm _).2.1.mono ?_; rintro e w1 ⟨rfl, rfl⟩) | (go_at_call 11; with_reducible refine (arm _).2.2.1.mono ?_; rintro e w1 ⟨rfl, rfl⟩) | (go_at_call 12; with_reducible refine (arm _).2.2.2.1.mono ?_; rintro e w1 ⟨rfl, rfl⟩) | (go_at_call 11; with_reducible refine (arm _).2.2.2.2.1.mono ?_; rintro e w1 ⟨rfl, rfl⟩) | (go_at_call 12; with_reducible refine (arm _).2.2.2.2.2.1.mono ?_; rintro e w1 ⟨rfl, rfl⟩) | (go_at_call 11; with_reducible refine (arm _).2.2.2.2.2.2.mono ?_; rintro e w1 ⟨rfl, rfl⟩) | (go_at_call 11; with_reducible refine (arm2 _).1.mono ?_; rintro e w1 ⟨rfl, rfl⟩) | (go_at_call 13; with_reducible refine (arm2 _).2.1.mono ?_; rintro e w1 ⟨rfl, rfl⟩) | (go_at_call 13; with_reducible refine (arm2 _).2.2.mono ?_; rintro e w1 ⟨rfl, rfl⟩))
      go_ret
      exact ⟨L.ret_bool (by first | rfl | simp [*]), HB⟩
    | false =>
      clear f2 f3 f4 f5
      go_enter Try.func3, Try.ntmps3
      go_wp2_with (first | (go_at_call 10; with_reducible refine (arm _).1.mono ?_; rintro e w1 ⟨rfl, rfl⟩) | (go_at_call 11; with_reducible refine (arm _).2.1.mono ?_; rintro e w1 ⟨rfl, rfl⟩) | (go_at_call 11; with_reducible refine (arm _).2.2.1.mono ?_; rintro e w1 ⟨rfl, rfl⟩) | (go_at_call 12; with_reducible refine (arm _).2.2.2.1.mono ?_; rintro e w1 ⟨rfl, rfl⟩) | (go_at_call 11; with_reducible refine (arm _).2.2.2.2.1.mono ?_; rintro e w1 ⟨rfl, rfl⟩) | (go_at_call 12; with_reducible refine (arm _).2.2.2.2.2.1.mono ?_; rintro e w1 ⟨rfl, rfl⟩) | (go_at_call 11; with_reducible refine (arm _).2.2.2.2.2.2.mono ?_; rintro e w1 ⟨rfl, rfl⟩) | (go_at_call 11; with_reducible refine (arm2 _).1.mono ?_; rintro e w1 ⟨rfl, rfl⟩) | (go_at_call 13; with_reducible refine (arm2 _).2.1.mono ?_; rintro e w1 ⟨rfl, rfl⟩) | (go_at_call 13; with_reducible refine (arm2 _).2.2.mono ?_; rintro e w1 ⟨rfl, rfl⟩))
      go_ret
      exact ⟨L.ret_bool (by first | rfl | simp [*]), HB⟩
  | false =>
    cases b with
    | true =>
      obtain rfl : c = false := f1
      clear f2 f3 f4 f5
      go_enter Try.func3, Try.ntmps3
      go_wp2_with (first | (go_at_call 10; with_reducible refine (arm _).1.mono ?_; rintro e w1 ⟨rfl, rfl⟩) | (go_at_call 11; with_reducible refine (arm _).2.1.mono ?_; rintro e w1 ⟨rfl, rfl⟩) | (go_at_call 11; with_reducible refine (arm _).2.2.1.mono ?_; rintro e w1 ⟨rfl, rfl⟩) | (go_at_call 12; with_reducible refine (arm _).2.2.2.1.mono ?_; rintro e w1 ⟨rfl, rfl⟩) | (go_at_call 11; with_reducible refine (arm _).2.2.2.2.1.mono ?_; rintro e w1 ⟨rfl, rfl⟩) | (go_at_call 12; with_reducible refine (arm _).2.2.2.2.2.1.mono ?_; rintro e w1 ⟨rfl, rfl⟩) | (go_at_call 11; with_reducible refine (arm _).2.2.2.2.2.2.mono ?_; rintro e w1 ⟨rfl, rfl⟩) | (go_at_call 11; with_reducible refine (arm2 _).1.mono ?_; rintro e w1 ⟨rfl, rfl⟩) | (go_at_call 13; with_reducible refine (arm2 _).2.1.mono ?_; rintro e w1 ⟨rfl, rfl⟩) | (go_at_call 13; with_reducible refine (arm2 _).2.2.mono ?_; rintro e w1 ⟨rfl, rfl⟩))
      go_ret
      exact ⟨L.ret_bool (by first | rfl | simp [*]), HB⟩
    | false =>
      obtain rfl : c = true := f1
      obtain rfl := f4 rfl
      have g := f5 rfl
      clear f2 f3 f4 f5
      cases e
      all_goals
        go_enter Try.func3, Try.ntmps3
        go_wp2_with (first | (go_at_call 10; with_reducible refine (arm _).1.mono ?_; rintro e w1 ⟨rfl, rfl⟩) | (go_at_call 11; with_reducible refine (arm _).2.1.mono ?_; rintro e w1 ⟨rfl, rfl⟩) | (go_at_call 11; with_reducible refine (arm _).2.2.1.mono ?_; rintro e w1 ⟨rfl, rfl⟩) | (go_at_call 12; with_reducible refine (arm _).2.2.2.1.mono ?_; rintro e w1 ⟨rfl, rfl⟩) | (go_at_call 11; with_reducible refine (arm _).2.2.2.2.1.mono ?_; rintro e w1 ⟨rfl, rfl⟩) | (go_at_call 12; with_reducible refine (arm _).2.2.2.2.2.1.mono ?_; rintro e w1 ⟨rfl, rfl⟩) | (go_at_call 11; with_reducible refine (arm _).2.2.2.2.2.2.mono ?_; rintro e w1 ⟨rfl, rfl⟩) | (go_at_call 11; with_reducible refine (arm2 _).1.mono ?_; rintro e w1 ⟨rfl, rfl⟩) | (go_at_call 13; with_reducible refine (arm2 _).2.1.mono ?_; rintro e w1 ⟨rfl, rfl⟩) | (go_at_call 13; with_reducible refine (arm2 _).2.2.mono ?_; rintro e w1 ⟨rfl, rfl⟩))
        go_ret
        exact ⟨L.ret_bool (by first | rfl | simp [*]), HB⟩
end Go.Proofs.Ytebfnmhpmgjoiaa.Fl
