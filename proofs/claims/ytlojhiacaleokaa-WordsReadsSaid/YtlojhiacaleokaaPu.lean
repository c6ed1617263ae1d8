/- Words: what both unpacks compute. -/
import Derived.Test.YtlojhiacaleokaaPp
import Derived.Test.YtlojhiacaleokaaUn2
namespace Go.Proofs.Ytlojhiacaleokaa.PWD
open Go.RowKit Go.Proofs.YtlojhiacaleokaaW.PrintWords Go.Proofs.YtlojhiacaleokaaW.PrintLast Go.Proofs.YtlojhiacaleokaaW.PrintMore
set_option linter.unusedVariables false
/-- Words of 64 bits. -/
def U (l : List Int) : Prop := ∀ i : Nat, 0 ≤ rd l (i : Int) ∧ rd l (i : Int) < 18446744073709551616
theorem runpack_inner (l xs : List Int) (i : Nat) (x : Int) (h0 : 0 ≤ x) (h1 : x < 18446744073709551616) (hi : i ≤ 500) (d : Nat) : ∀ (k m : Nat), m ≤ i % 8 → i % 8 - m = d →
    sumpref01_Unpack.l1 (k + d + 1) l xs (i : Int) (x / 256 ^ m) (m : Int) (xs.length : Int) (i : Int) = (if 0 ≤ (i : Int) then (if (i : Int) < (xs.length : Int) then (sumpref01_Unpack.l0 k l (xs.set ((i : Int)).toNat ((Int.tmod (x / 256 ^ (i % 8)) 256) % 256)) (xs.length : Int) (wrap64 ((i : Int) + 1))) else (none)) else (none)) := by
  have t : Int.tmod (i : Int) 8 = ((i % 8 : Nat) : Int) := by rw [Int.tmod_eq_emod_of_nonneg (by omega)]; omega
  induction d with
  | zero =>
    intro k m hm hd
    obtain rfl : m = i % 8 := by omega
    rw [sumpref01_Unpack.l1, t, if_neg (by omega)]
  | succ d ih =>
    intro k m hm hd
    have q : (0 : Int) < 256 ^ m := Int.pow_pos (by decide)
    have n0 : 0 ≤ x / 256 ^ m := Int.ediv_nonneg h0 (by omega)
    have n1 : x / 256 ^ m ≤ x := Int.ediv_le_self _ h0
    have e : IntKind.u64.wrap (Int.tdiv (x / 256 ^ m) 256) = x / 256 ^ (m + 1) := by
      rw [Int.tdiv_eq_ediv_of_nonneg n0, Int.pow_succ, ← Int.ediv_ediv_of_nonneg (by omega)]
      generalize x / 256 ^ m = y at *
      exact u64_in (by omega) (by omega)
    rw [show k + (d + 1) + 1 = (k + d + 1) + 1 by omega, sumpref01_Unpack.l1, t, if_pos (by omega), e, wrap64_in (by omega) (by omega)]
    have h5 := ih k (m + 1) (by omega) (by omega)
    rw [show ((m + 1 : Nat) : Int) = (m : Int) + 1 by omega] at h5
    exact h5
theorem ub_eq (l : List Int) (h : U l) (i : Nat) (hi : i ≤ 500) : (Int.tmod (rd l ((i / 8 : Nat) : Int) / 256 ^ (i % 8)) 256) % 256 = ub l i := by
  obtain ⟨h0, h1⟩ := h (i / 8)
  have q : (0 : Int) < 256 ^ (i % 8) := Int.pow_pos (by decide)
  have n0 : 0 ≤ rd l ((i / 8 : Nat) : Int) / 256 ^ (i % 8) := Int.ediv_nonneg h0 (by omega)
  rw [Int.tmod_eq_emod_of_nonneg n0]
  unfold ub
  rw [← pow256, show ((i : Int) / 8) = ((i / 8 : Nat) : Int) by omega]
  omega
theorem runpack_loop (l : List Int) (h : U l) (n : Nat) (hn : n ≤ 500) (hnl : n ≤ 8 * l.length) (r : Option (List Int × Bool)) (K : Nat)
    (hend : ∀ k, K ≤ k → ((sumpref01_Pack.f k (outs l n n)).bind fun t131 => ((sumpref01_SameWords.f k t131 l).bind fun t134 => (if t134 = true then (some (outs l n n, true)) else (some (([] : List Int), false))))) = r) (d : Nat) : ∀ (i : Nat), i ≤ n → n - i = d →
    ∃ k, sumpref01_Unpack.l0 k l (outs l n i) (n : Int) (i : Int) = r := by
  induction d with
  | zero =>
    intro i h1 hd
    obtain rfl : i = n := by omega
    exact ⟨K + 1, by rw [sumpref01_Unpack.l0, if_neg (by omega)]; exact hend K (Nat.le_refl _)⟩
  | succ d ih =>
    intro i h1 hd
    obtain ⟨k, hk⟩ := ih (i + 1) (by omega) (by omega)
    obtain ⟨b0, b1⟩ := h (i / 8)
    refine ⟨(k + i % 8 + 1) + 1, ?_⟩
    have t1 : wrap64 (Int.tdiv (i : Int) 8) = ((i / 8 : Nat) : Int) := by
      rw [Int.tdiv_eq_ediv_of_nonneg (by omega), wrap64_in (by omega) (by omega)]; omega
    have hl := outs_len l n i (by omega)
    have h5 := runpack_inner l (outs l n i) i (rd l ((i / 8 : Nat) : Int)) b0 b1 (by omega) (i % 8) k 0 (by omega) (by omega)
    rw [show rd l ((i / 8 : Nat) : Int) / 256 ^ 0 = rd l ((i / 8 : Nat) : Int) by rw [show (256 : Int) ^ 0 = 1 from rfl, Int.ediv_one], hl] at h5
    rw [sumpref01_Unpack.l0, if_pos (by omega), t1, if_pos (by omega), if_pos (by omega)]
    refine Eq.trans h5 ?_
    rw [if_pos (by omega), if_pos (by omega), Int.toNat_natCast, ub_eq l h i (by omega), outs_set l n i (by omega), wrap64_in (by omega) (by omega)]
    rw [show ((i + 1 : Nat) : Int) = (i : Int) + 1 by omega] at hk
    exact hk
end Go.Proofs.Ytlojhiacaleokaa.PWD
