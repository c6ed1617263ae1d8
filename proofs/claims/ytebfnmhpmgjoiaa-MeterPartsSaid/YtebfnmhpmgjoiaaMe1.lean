/- the meter: floats that are the same have the same halves; Mid. -/
import Derived.Test.YtebfnmhpmgjoiaaMd
namespace Go.Proofs.Ytebfnmhpmgjoiaa.Fl
open Go.RowKit FT SM Ieee Go.Proofs.YtebfnmhpmgjoiaaW.PrintWords Go.Proofs.YtebfnmhpmgjoiaaW.PrintMore
set_option linter.unusedVariables false
set_option linter.unusedSimpArgs false
theorem read_of {x y : Nat} (h1 : S x = S y) (h2 : R x = R y) : double.read x = double.read y := by
  rw [S_def, S_def] at h1
  unfold R at h2
  unfold Format.read
  rw [sw, h1, h2]
theorem u_zero {r : Nat} (h : u r = 0) : r = 0 := by
  rcases Nat.eq_zero_or_pos r with h0 | h0
  · exact h0
  · have := u_lt h0
    have h1 : u 0 = 0 := rfl
    omega
theorem S_zero {x y : Nat} (nx : N x = false) (ny : N y = false) (hx : W x = 0) (hy : W y = 0) (hc : cls x = cls y) : S x = S y := by
  have hG := G_pos
  have e : ∀ z, N z = false → W z = 0 → cls z = if S z = true then 3 else 4 := by
    intro z h1 h2
    unfold cls
    rw [if_neg (by rw [h1]; decide), if_neg (by omega), if_neg (by omega), if_neg (by omega), if_neg (by omega)]
  rw [e x nx hx, e y ny hy] at hc
  cases hS : S x <;> cases hT : S y <;> rw [hS, hT] at hc <;> first | rfl | exact absurd hc (by decide)
theorem same_read {x y : Nat} (h : same x y = true) : (N x = true ∧ N y = true) ∨ double.read x = double.read y := by
  obtain ⟨hc, hw⟩ := same_cls h
  by_cases k0 : N x = true
  · exact .inl ⟨k0, (kn y).2 (hc ▸ (kn x).1 k0)⟩
  have nx : N x = false := Bool.eq_false_iff.2 k0
  have hx0 : cls x ≠ 0 := fun e => k0 ((kn x).2 e)
  have ny : N y = false := Bool.eq_false_iff.2 fun e => hx0 (hc.trans ((kn y).1 e))
  have hW := hw hx0
  refine .inr ?_
  have hGb := G_big
  by_cases fx : R x < inf'
  · by_cases fy : R y < inf'
    · have wx := (W_fin fx).2
      have wy := (W_fin fy).2
      by_cases z : W x = 0
      · have e1 : u (R x) = 0 := by rw [z] at wx; unfold sg at wx; split at wx <;> omega
        have e2 : u (R y) = 0 := by rw [← hW, z] at wy; unfold sg at wy; split at wy <;> omega
        exact read_of (S_zero nx ny z (hW ▸ z) hc) ((u_zero e1).trans (u_zero e2).symm)
      · rw [wx, wy] at hW
        have hu : u (R x) = u (R y) := by unfold sg at hW; split at hW <;> split at hW <;> omega
        have hs : S x = S y := by
          rw [wx] at z
          unfold sg at hW z
          cases hS : S x <;> cases hT : S y <;> rw [hS, hT] at hW <;> simp at hW <;> first | rfl | (exfalso; rw [hS] at z; simp at z; omega)
        exact read_of hs (Nat.le_antisymm (u_le_iff.1 (by omega)) (u_le_iff.1 (by omega)))
    · have h1 := fin_G fx
      have h2 := other_W fy ny
      rw [← hW] at h2
      split at h2 <;> omega
  · by_cases fy : R y < inf'
    · have h1 := fin_G fy
      have h2 := other_W fx nx
      rw [hW] at h2
      split at h2 <;> omega
    · have h1 := other_W fx nx
      have h2 := other_W fy ny
      rw [other fx nx, other fy ny]
      have hb := big_pos
      rw [hW, h2] at h1
      cases hS : S x <;> cases hT : S y <;> rw [hS, hT] at h1 <;> simp at h1 <;> first | rfl | omega
/-- The halves of what is the same are the same. -/
theorem quo_same {x y : Nat} (z : Nat) (h : same x y = true) : floatBits .quo .f64 x z = floatBits .quo .f64 y z := by
  rcases same_read h with ⟨h1, h2⟩ | h
  · rw [quo_nan z h1, quo_nan z h2]
  · show double.div x z = double.div y z
    unfold Format.div
    rw [h]
theorem midv_same {x y p q : Nat} (h1 : same x p = true) (h2 : same y q = true) : midv x y = midv p q := by
  unfold midv
  rw [quo_same two h1, quo_same two h2]
theorem Is.mid {x y a b m : Nat} (h1 : Is (floatBits .quo .f64 x two) a) (h2 : Is (floatBits .quo .f64 y two) b) (h3 : Is (floatBits .add .f64 a b) m) : Is (midv x y) m := by
  unfold midv
  cases hx : floatBits .quo .f64 x two with
  | none =>
    rw [hx] at h1
    rw [add_nan b h1] at h3
    exact h3
  | some a' =>
    rw [hx] at h1
    have h1' : a = a' := h1
    subst h1'
    cases hy : floatBits .quo .f64 y two with
    | none =>
      rw [hy] at h2
      rw [add_nan' a h2] at h3
      exact h3
    | some b' =>
      rw [hy] at h2
      have h2' : b = b' := h2
      subst h2'
      exact h3
set_option maxHeartbeats 2000000 in
theorem mid2_calls (x y : Nat) (w : World) : Calls Try.prog 19 #[.float .f64 x, .float .f64 y] w fun e w' => ∃ m, e = .returned (.float .f64 m) ∧ Is (midv x y) m ∧ Below w.heap.size w w' := by
  obtain ⟨a, ka, h1, i1⟩ := arith_of .quo (.inl rfl) 22 x 4611686018427387904
  obtain ⟨b, kb, h2, i2⟩ := arith_of .quo (.inl rfl) 22 y 4611686018427387904
  obtain ⟨m, km, h3, i3⟩ := arith_of .add (.inr rfl) 22 (a w) (b (w.drewN ka))
  have HM : Hid (∀ W, Is (midv x y) (m W)) := hid fun W => Is.mid (i1 w) (i2 (w.drewN ka)) (i3 W)
  clear i1 i2 i3
  go_enter Try.func19, Try.ntmps19
  go_wp2
  go_ret
  exact ⟨_, rfl, HM.out _, by first | exact below_drewN (Below.refl _ _) _ | exact below_drewN (below_drewN (below_drewN (Below.refl _ _) _) _) _⟩
end Go.Proofs.Ytebfnmhpmgjoiaa.Fl
