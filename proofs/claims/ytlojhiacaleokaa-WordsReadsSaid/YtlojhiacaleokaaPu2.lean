/- Words: both packs and both unpacks answer alike. -/
import Derived.Test.YtlojhiacaleokaaUn3
import Derived.Test.YtlojhiacaleokaaQ
namespace Go.Proofs.Ytlojhiacaleokaa.PWD
open Go.RowKit Go.Proofs.YtlojhiacaleokaaW.PrintWords Go.Proofs.YtlojhiacaleokaaW.PrintLast Go.Proofs.YtlojhiacaleokaaW.PrintMore
set_option linter.unusedVariables false
theorem need_nat (n : Nat) (hn : n ≤ 1099511627776) : words_Need.f (n : Int) = some (((n + 7) / 8 : Nat) : Int) := by
  unfold words_Need.f
  by_cases c : (n : Int) < 1
  · rw [if_pos c]; congr 1; omega
  · rw [if_neg c]
    have e1 : wrap64 ((n : Int) - 1) = n - 1 := wrap64_in (by omega) (by omega)
    rw [e1, Int.tdiv_eq_ediv_of_nonneg (by omega)]
    have e2 : wrap64 (((n : Int) - 1) / 8) = ((n : Int) - 1) / 8 := wrap64_in (by omega) (by omega)
    rw [e2, wrap64_in (by omega) (by omega)]
    congr 1; omega
theorem need_neg (n : Int) (hn : n < 1) : words_Need.f n = some 0 := by
  unfold words_Need.f; rw [if_pos hn]
theorem pk_zero (l : List Int) (n : Nat) : pk l 0 n = List.replicate n 0 := by
  unfold pk
  apply List.ext_getElem
  · simp
  · intro j h1 h2; simp [Wv]
def packv (l : List Int) : List Int := pk l l.length ((l.length + 7) / 8)
theorem packv_len (l : List Int) : (packv l).length = (l.length + 7) / 8 := pk_len _ _ _
theorem pack_ev (l : List Int) (h : B l) (hn : l.length ≤ 500) (k : Nat) (hk : l.length < k) : words_Pack.f k l = some (packv l) := by
  unfold words_Pack.f
  rw [need_nat _ (by omega), Option.bind_some, if_pos (by omega), if_pos (by omega), Int.toNat_natCast, ← pk_zero l]
  exact pack_loop l h _ hn (by omega) (by omega) l.length k 0 (by omega) (by omega) hk
theorem rpack_ev (l : List Int) (h : B l) (hn : l.length ≤ 500) : Ev (fun k => sumpref01_Pack.f k l) (packv l) := by
  obtain ⟨k, hk⟩ := rpack_loop l h hn l.length 0 (by omega) (by omega)
  refine Ev.of (fun k => sumpref01_Pack.mono l k) (k := k) ?_
  unfold sumpref01_Pack.f
  exact hk
theorem same_ev (a b : List Int) (hn : a.length ≤ 9223372036854775806) (k : Nat) (hk : a.length < k) : sumpref01_SameWords.f k a b = some (decide (a = b)) := by
  unfold sumpref01_SameWords.f
  by_cases c : a.length = b.length
  · rw [if_pos (by omega)]
    exact Q.eq_loop_int (F := fun k i => sumpref01_SameWords.l0 k a b (a.length : Int) i) c hn (fun k i => by simp only [sumpref01_SameWords.l0]) k hk
  · rw [if_neg (by omega)]
    congr 1
    rw [eq_comm, decide_eq_false_iff_not]
    exact fun e => c (by rw [e])
theorem equal_ev (a b : List Int) (hn : a.length ≤ 9223372036854775806) (k : Nat) (hk : a.length < k) : slices_Equal_uint64_uint64.f k a b = some (decide (a = b)) := by
  unfold slices_Equal_uint64_uint64.f
  by_cases c : a.length = b.length
  · rw [if_pos (by omega)]
    exact Q.eq_loop_int (F := fun k i => slices_Equal_uint64_uint64.l0 k a b (a.length : Int) i) c hn (fun k i => by simp only [slices_Equal_uint64_uint64.l0]) k hk
  · rw [if_neg (by omega)]
    congr 1
    rw [eq_comm, decide_eq_false_iff_not]
    exact fun e => c (by rw [e])
theorem outs_B (l : List Int) (n : Nat) : B (outs l n n) := by
  intro i
  refine Q.rd_all (p := fun x => 0 ≤ x ∧ x < 256) ?_ (by omega) i
  intro x hx
  unfold outs at hx
  rcases List.mem_append.1 hx with hx | hx
  · obtain ⟨j, _, rfl⟩ := List.mem_map.1 hx
    unfold ub; omega
  · rw [List.eq_of_mem_replicate hx]; omega
/-- What Unpack answers. -/
def unv (l : List Int) (n : Int) : List Int × Bool :=
  if n < 0 ∨ (n.toNat + 7) / 8 ≠ l.length then ([], false) else if packv (outs l n.toNat n.toNat) = l then (outs l n.toNat n.toNat, true) else ([], false)
theorem unpack_ev (l : List Int) (n : Int) (hn : n ≤ 500) (k : Nat) (hk : 501 < k) : words_Unpack.f k l n = some (unv l n) := by
  unfold words_Unpack.f unv
  by_cases c : n < 0
  · rw [if_pos c, if_pos (Or.inl c)]
  · obtain ⟨m, rfl⟩ := Int.eq_ofNat_of_zero_le (Int.not_lt.mp c)
    rw [if_neg c, need_nat _ (by omega), Option.bind_some, Int.toNat_natCast]
    by_cases c2 : (m + 7) / 8 = l.length
    · have hl := outs_len l m m (Nat.le_refl _)
      rw [if_pos (by rw [c2]), if_pos hn, if_neg (by rintro (h | h); exact c h; exact h c2), pack_ev _ (outs_B l m) (by omega) k (by omega), Option.bind_some, equal_ev _ _ (by rw [packv_len]; omega) k (by rw [packv_len]; omega), Option.bind_some]
      by_cases c3 : packv (outs l m m) = l
      · rw [decide_eq_true c3, if_pos rfl, if_pos c3]
      · rw [decide_eq_false c3, if_neg (by decide), if_neg c3]
    · rw [if_neg (by omega), if_pos (Or.inr c2)]
theorem runpack_ev (l : List Int) (n : Int) (h : U l) (hl : l.length ≤ 1000) (hn : n ≤ 500) (hn0 : -9223372036854775808 ≤ n) : Ev (fun k => sumpref01_Unpack.f k l n) (unv l n) := by
  have hj0 : ∀ k, sumpref01_Unpack.j0 (k + 1) l n true = some ([], false) := fun k => by rw [sumpref01_Unpack.j0, if_pos rfl]
  have hj : Ev (fun k => sumpref01_Unpack.j0 k l n true) ([], false) := ⟨1, fun k hk => by obtain ⟨m, rfl⟩ : ∃ m, k = m + 1 := ⟨k - 1, by omega⟩; exact hj0 m⟩
  have e8 : wrap64 (8 * (l.length : Int)) = 8 * l.length := wrap64_in (by omega) (by omega)
  unfold unv
  by_cases c : n < 0
  · rw [if_pos (Or.inl c)]
    refine Ev.congr (fun k => ?_) hj
    unfold sumpref01_Unpack.f; rw [if_pos c]
  · obtain ⟨m, rfl⟩ := Int.eq_ofNat_of_zero_le (Int.not_lt.mp c)
    rw [Int.toNat_natCast]
    by_cases c2 : (m + 7) / 8 = l.length
    · rw [if_neg (by rintro (h | h); exact c h; exact h c2)]
      have hlo := outs_len l m m (Nat.le_refl _)
      have hr : ∃ K, ∀ k, K ≤ k → ((sumpref01_Pack.f k (outs l m m)).bind fun t131 => ((sumpref01_SameWords.f k t131 l).bind fun t134 => (if t134 = true then (some (outs l m m, true)) else (some (([] : List Int), false))))) = some (if packv (outs l m m) = l then (outs l m m, true) else ([], false)) := by
        obtain ⟨K, hK⟩ := rpack_ev (outs l m m) (outs_B l m) (by omega)
        refine ⟨K + 1000, fun k hk => ?_⟩
        have hKk := hK k (by omega)
        simp only at hKk
        rw [hKk, Option.bind_some, same_ev _ _ (by rw [packv_len]; omega) k (by rw [packv_len]; omega), Option.bind_some]
        by_cases c3 : packv (outs l m m) = l
        · rw [decide_eq_true c3, if_pos rfl, if_pos c3]
        · rw [decide_eq_false c3, if_neg (by decide), if_neg c3]
      obtain ⟨K, hK⟩ := hr
      obtain ⟨k, hk⟩ := runpack_loop l h m (by omega) (by omega) _ K hK m 0 (by omega) (by omega)
      refine Ev.of (fun k => sumpref01_Unpack.mono l _ k) (k := k + 1) ?_
      have hj2 : sumpref01_Unpack.j0 (k + 1) l (m : Int) (decide ((m : Int) > wrap64 (8 * (l.length : Int)))) = some (if packv (outs l m m) = l then (outs l m m, true) else ([], false)) := by
        rw [sumpref01_Unpack.j0, e8, decide_eq_false (by omega), if_neg (by decide), if_pos (by omega), if_pos (by omega), Option.bind_some, Int.toNat_natCast, List.length_replicate]
        have e0 : outs l m 0 = List.replicate m 0 := by simp [outs]
        rw [← e0]
        exact hk
      unfold sumpref01_Unpack.f
      rw [if_neg c]
      by_cases c4 : (l.length : Int) > 0
      · have e1 : wrap64 ((l.length : Int) - 1) = l.length - 1 := wrap64_in (by omega) (by omega)
        rw [if_pos c4, e1, wrap64_in (by omega) (by omega), if_neg (by omega)]; exact hj2
      · rw [if_neg c4]; exact hj2
    · rw [if_pos (Or.inr c2)]
      refine Ev.congr (fun k => ?_) hj
      unfold sumpref01_Unpack.f
      rw [if_neg c]
      by_cases c4 : (l.length : Int) > 0
      · have e1 : wrap64 ((l.length : Int) - 1) = l.length - 1 := wrap64_in (by omega) (by omega)
        rw [if_pos c4, e1, wrap64_in (by omega) (by omega), e8]
        by_cases c5 : (m : Int) ≤ 8 * ((l.length : Int) - 1)
        · rw [if_pos c5]
        · rw [if_neg c5, decide_eq_true (by omega)]
      · rw [if_neg c4, e8, decide_eq_true (by omega)]
end Go.Proofs.Ytlojhiacaleokaa.PWD
