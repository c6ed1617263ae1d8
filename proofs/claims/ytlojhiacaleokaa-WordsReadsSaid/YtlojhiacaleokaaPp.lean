/- Words: what both packs compute. -/
import Derived.Test.YtlojhiacaleokaaPWDx2
import Derived.Laws.BitsAllLaws
namespace Go.Proofs.Ytlojhiacaleokaa.PWD
open Go.RowKit Go.Proofs.YtlojhiacaleokaaW.PrintWords Go.Proofs.YtlojhiacaleokaaW.PrintLast Go.Proofs.YtlojhiacaleokaaW.PrintMore
set_option linter.unusedVariables false
/-- The word j of the first i bytes. -/
def Wv (l : List Int) : Nat → Nat → Int
  | 0, _ => 0
  | i + 1, j => Wv l i j + (if i / 8 = j then rd l (i : Int) * 256 ^ (i % 8) else 0)
def B (l : List Int) : Prop := ∀ i : Nat, 0 ≤ rd l (i : Int) ∧ rd l (i : Int) < 256
theorem Wv_bound (l : List Int) (h : B l) : ∀ (i j : Nat), 0 ≤ Wv l i j ∧ Wv l i j < 256 ^ (min 8 (i - 8 * j))
  | 0, j => by unfold Wv; exact ⟨Int.le_refl _, by simp⟩
  | i + 1, j => by
    obtain ⟨h1, h2⟩ := Wv_bound l h i j
    obtain ⟨b1, b2⟩ := h i
    unfold Wv
    by_cases k : i / 8 = j
    · rw [if_pos k]
      have e1 : min 8 (i - 8 * j) = i % 8 := by omega
      have e2 : min 8 (i + 1 - 8 * j) = i % 8 + 1 := by omega
      rw [e1] at h2
      rw [e2, Int.pow_succ]
      have p : (0 : Int) < 256 ^ (i % 8) := Int.pow_pos (by decide)
      generalize (256 : Int) ^ (i % 8) = q at *
      have m1 : rd l (i : Int) * q ≤ 255 * q := Int.mul_le_mul_of_nonneg_right (show rd l (i : Int) ≤ 255 by omega) (show (0 : Int) ≤ q by omega)
      have m2 : 0 ≤ rd l (i : Int) * q := Int.mul_nonneg b1 (by omega)
      omega
    · rw [if_neg k, Int.add_zero]
      refine ⟨h1, ?_⟩
      have e : min 8 (i - 8 * j) = min 8 (i + 1 - 8 * j) := by omega
      rw [← e]; exact h2
theorem or_add (a b : Int) (k : Nat) (ha : 0 ≤ a) (hk : a < 2 ^ k) (hb : 0 ≤ b) (hw : a + b * 2 ^ k < 18446744073709551616) : Go.bits .or .u64 a (b * 2 ^ k) = a + b * 2 ^ k := by
  have hbk : 0 ≤ b * 2 ^ k := Int.mul_nonneg hb (Int.le_of_lt (Int.pow_pos (by decide)))
  rw [u64_or a (b * 2 ^ k) ha (by omega) hbk (by omega)]
  obtain ⟨m, rfl⟩ := Int.eq_ofNat_of_zero_le ha
  obtain ⟨n, rfl⟩ := Int.eq_ofNat_of_zero_le hb
  have e : ((n : Int) * 2 ^ k) = ((n * 2 ^ k : Nat) : Int) := by simp
  rw [e, Int.toNat_natCast, Int.toNat_natCast]
  have hm : m < 2 ^ k := by exact_mod_cast hk
  rw [Nat.or_comm, Nat.mul_comm, ← Nat.two_pow_add_eq_or_of_lt hm]
  omega
def pk (l : List Int) (i n : Nat) : List Int := (List.range n).map (Wv l i)
theorem pk_len (l : List Int) (i n : Nat) : (pk l i n).length = n := by simp [pk]
theorem pk_rd (l : List Int) (i n j : Nat) (h : j < n) : rd (pk l i n) (j : Int) = Wv l i j := by
  simp [rd, pk, List.getD_eq_getElem?_getD, h]
theorem pk_set (l : List Int) (i n : Nat) (v : Int) (h : i / 8 < n) (hv : v = Wv l (i + 1) (i / 8)) : (pk l i n).set (i / 8) v = pk l (i + 1) n := by
  apply List.ext_getElem
  · simp [pk]
  · intro j h1 h2
    rw [List.getElem_set]
    by_cases k : i / 8 = j
    · rw [if_pos k, hv, k]; simp [pk]
    · rw [if_neg k]; simp [pk, Wv, k]
theorem wrap64_in {x : Int} (h0 : -9223372036854775808 ≤ x) (h1 : x < 9223372036854775808) : wrap64 x = x := by unfold wrap64; omega
theorem u64_in {x : Int} (h0 : 0 ≤ x) (h1 : x < 18446744073709551616) : IntKind.u64.wrap x = x := by
  show x % 18446744073709551616 = x; omega
theorem pow256 (k : Nat) : (256 : Int) ^ k = 2 ^ (8 * k) := by rw [Int.pow_mul]; rfl
theorem pow_le8 (m : Nat) (h : m ≤ 8) : (256 : Int) ^ m ≤ 18446744073709551616 := by
  rcases m with _ | _ | _ | _ | _ | _ | _ | _ | _ | m
  all_goals first | decide | omega
theorem pack_step (l : List Int) (h : B l) (i : Nat) : Go.bits .or .u64 (Wv l i (i / 8)) (shl .u64 (IntKind.u64.wrap (rd l (i : Int))) ((8 * (i % 8) : Nat) : Int)) = Wv l (i + 1) (i / 8) := by
  obtain ⟨b1, b2⟩ := h i
  obtain ⟨h1, h2⟩ := Wv_bound l h i (i / 8)
  obtain ⟨g1, g2⟩ := Wv_bound l h (i + 1) (i / 8)
  have e1 : min 8 (i - 8 * (i / 8)) = i % 8 := by omega
  have e2 : (256 : Int) ^ (min 8 (i + 1 - 8 * (i / 8))) ≤ 18446744073709551616 := pow_le8 _ (by omega)
  have e3 : Wv l (i + 1) (i / 8) = Wv l i (i / 8) + rd l (i : Int) * 256 ^ (i % 8) := by rw [Wv, if_pos rfl]
  rw [e1, pow256] at h2
  rw [e3] at g1 g2 ⊢
  rw [pow256] at g1 g2 ⊢
  have hs : shl .u64 (IntKind.u64.wrap (rd l (i : Int))) ((8 * (i % 8) : Nat) : Int) = rd l (i : Int) * 2 ^ (8 * (i % 8)) := by
    unfold shl
    rw [u64_in b1 (by omega), Int.toNat_natCast, Nat.min_eq_left (show 8 * (i % 8) ≤ IntKind.u64.bits by show _ ≤ 64; omega)]
    have m2 : 0 ≤ rd l (i : Int) * 2 ^ (8 * (i % 8)) := Int.mul_nonneg b1 (Int.le_of_lt (Int.pow_pos (by decide)))
    exact u64_in m2 (by omega)
  rw [hs]
  exact or_add _ _ _ h1 h2 b1 (by omega)
theorem pack_loop (l : List Int) (h : B l) (n : Nat) (hn : l.length ≤ 500) (hnd : l.length ≤ 8 * n) (hn2 : n ≤ 500) (d : Nat) : ∀ (k i : Nat), i ≤ l.length → l.length - i = d → d < k →
    words_Pack.l0 k (pk l i n) l (l.length : Int) (i : Int) = some (pk l l.length n) := by
  induction d with
  | zero =>
    intro k i h1 hd hk
    obtain ⟨k, rfl⟩ : ∃ m, k = m + 1 := ⟨k - 1, by omega⟩
    obtain rfl : i = l.length := by omega
    rw [words_Pack.l0, if_neg (by omega)]
  | succ d ih =>
    intro k i h1 hd hk
    obtain ⟨k, rfl⟩ : ∃ m, k = m + 1 := ⟨k - 1, by omega⟩
    have t1 : wrap64 (Int.tdiv (i : Int) 8) = ((i / 8 : Nat) : Int) := by
      rw [Int.tdiv_eq_ediv_of_nonneg (by omega), wrap64_in (by omega) (by omega)]; omega
    have t2 : wrap64 (8 * Int.tmod (i : Int) 8) = ((8 * (i % 8) : Nat) : Int) := by
      rw [Int.tmod_eq_emod_of_nonneg (by omega), wrap64_in (by omega) (by omega)]; omega
    rw [words_Pack.l0, if_pos (by omega), if_pos (by omega), if_pos (by omega), t1, t2, if_pos (by omega), if_pos (by rw [pk_len]; omega), if_pos (by omega), wrap64_in (by omega) (by omega), Int.toNat_natCast]
    rw [pk_rd l i n (i / 8) (by omega), pack_step l h i, pk_set l i n _ (by omega) rfl]
    exact_mod_cast ih k (i + 1) (by omega) (by omega) (by omega)
theorem rpack_inner (xs l : List Int) (i : Nat) (x : Int) (h0 : 0 ≤ x) (h1 : x < 256) (hi : i ≤ 500) (d : Nat) : ∀ (k m : Nat), m ≤ i % 8 → i % 8 - m = d →
    sumpref01_Pack.l1 (k + d + 1) xs (i : Int) (x * 256 ^ m) (m : Int) l (l.length : Int) (i : Int) = (if 0 ≤ (wrap64 (Int.tdiv (i : Int) 8)) then (if (wrap64 (Int.tdiv (i : Int) 8)) < (xs.length : Int) then (sumpref01_Pack.l0 k (xs.set ((wrap64 (Int.tdiv (i : Int) 8)) : Int).toNat (IntKind.u64.wrap ((rd xs (wrap64 (Int.tdiv (i : Int) 8))) + x * 256 ^ (i % 8)))) l (l.length : Int) (wrap64 ((i : Int) + 1))) else (none)) else (none)) := by
  have t : Int.tmod (i : Int) 8 = ((i % 8 : Nat) : Int) := by rw [Int.tmod_eq_emod_of_nonneg (by omega)]; omega
  induction d with
  | zero =>
    intro k m hm hd
    obtain rfl : m = i % 8 := by omega
    rw [sumpref01_Pack.l1, t, if_neg (by omega)]
  | succ d ih =>
    intro k m hm hd
    have e : IntKind.u64.wrap (x * 256 ^ m * 256) = x * 256 ^ (m + 1) := by
      rw [Int.pow_succ, ← Int.mul_assoc]
      have p : (256 : Int) ^ (m + 1) ≤ 72057594037927936 := by
        have : m + 1 ≤ 7 := by omega
        rcases m with _ | _ | _ | _ | _ | _ | _ | m
        all_goals first | decide | omega
      have q : (0 : Int) < 256 ^ (m + 1) := Int.pow_pos (by decide)
      rw [Int.mul_assoc, ← Int.pow_succ]
      generalize (256 : Int) ^ (m + 1) = z at *
      have m1 : x * z ≤ 255 * z := Int.mul_le_mul_of_nonneg_right (show x ≤ 255 by omega) (show (0 : Int) ≤ z by omega)
      have m2 : 0 ≤ x * z := Int.mul_nonneg h0 (by omega)
      exact u64_in m2 (by omega)
    rw [show k + (d + 1) + 1 = (k + d + 1) + 1 by omega, sumpref01_Pack.l1, t, if_pos (by omega), e, wrap64_in (by omega) (by omega)]
    have h5 := ih k (m + 1) (by omega) (by omega)
    rw [show ((m + 1 : Nat) : Int) = (m : Int) + 1 by omega] at h5
    exact h5
theorem pk_snoc (l : List Int) (h : B l) (i : Nat) (h8 : i % 8 = 0) : pk l i (i / 8) ++ [0] = pk l i (i / 8 + 1) := by
  obtain ⟨h1, h2⟩ := Wv_bound l h i (i / 8)
  rw [show min 8 (i - 8 * (i / 8)) = 0 by omega] at h2
  have h3 : Wv l i (i / 8) = 0 := by
    have : (256 : Int) ^ 0 = 1 := rfl
    omega
  unfold pk
  rw [List.range_succ, List.map_append]
  simp [h3]
theorem rpack_loop (l : List Int) (h : B l) (hn : l.length ≤ 500) (d : Nat) : ∀ (i : Nat), i ≤ l.length → l.length - i = d →
    ∃ k, sumpref01_Pack.l0 k (pk l i ((i + 7) / 8)) l (l.length : Int) (i : Int) = some (pk l l.length ((l.length + 7) / 8)) := by
  induction d with
  | zero =>
    intro i h1 hd
    obtain rfl : i = l.length := by omega
    exact ⟨1, by rw [sumpref01_Pack.l0, if_neg (by omega)]⟩
  | succ d ih =>
    intro i h1 hd
    obtain ⟨k, hk⟩ := ih (i + 1) (by omega) (by omega)
    obtain ⟨b1, b2⟩ := h i
    refine ⟨(k + i % 8 + 1) + 1 + 1, ?_⟩
    have t : Int.tmod (i : Int) 8 = ((i % 8 : Nat) : Int) := by rw [Int.tmod_eq_emod_of_nonneg (by omega)]; omega
    have t1 : wrap64 (Int.tdiv (i : Int) 8) = ((i / 8 : Nat) : Int) := by
      rw [Int.tdiv_eq_ediv_of_nonneg (by omega), wrap64_in (by omega) (by omega)]; omega
    have key : sumpref01_Pack.j1 (k + i % 8 + 1 + 1) (pk l i (i / 8 + 1)) (i : Int) (rd l (i : Int)) l (l.length : Int) (i : Int) = some (pk l l.length ((l.length + 7) / 8)) := by
      rw [sumpref01_Pack.j1, u64_in b1 (by omega)]
      have h5 := rpack_inner (pk l i (i / 8 + 1)) l i (rd l (i : Int)) b1 b2 (by omega) (i % 8) k 0 (by omega) (by omega)
      rw [show rd l (i : Int) * 256 ^ 0 = rd l (i : Int) by rw [show (256 : Int) ^ 0 = 1 from rfl, Int.mul_one]] at h5
      refine Eq.trans h5 ?_
      obtain ⟨g1, g2⟩ := Wv_bound l h (i + 1) (i / 8)
      have e3 : Wv l (i + 1) (i / 8) = Wv l i (i / 8) + rd l (i : Int) * 256 ^ (i % 8) := by rw [Wv, if_pos rfl]
      have e4 := pow_le8 (min 8 (i + 1 - 8 * (i / 8))) (by omega)
      rw [t1, if_pos (by omega), if_pos (by rw [pk_len]; omega), Int.toNat_natCast, pk_rd l i (i / 8 + 1) (i / 8) (by omega), ← e3, u64_in g1 (by omega), pk_set l i _ _ (by omega) rfl, wrap64_in (by omega) (by omega)]
      rw [show (i + 1 + 7) / 8 = i / 8 + 1 by omega, show ((i + 1 : Nat) : Int) = (i : Int) + 1 by omega] at hk
      exact hk
    rw [sumpref01_Pack.l0, if_pos (by omega), if_pos (by omega), if_pos (by omega), t]
    by_cases h8 : i % 8 = 0
    · rw [if_pos (by omega), if_pos (by rw [pk_len]; omega), show (i + 7) / 8 = i / 8 by omega, pk_snoc l h i h8]; exact key
    · rw [if_neg (by omega), show (i + 7) / 8 = i / 8 + 1 by omega]; exact key
end Go.Proofs.Ytlojhiacaleokaa.PWD
