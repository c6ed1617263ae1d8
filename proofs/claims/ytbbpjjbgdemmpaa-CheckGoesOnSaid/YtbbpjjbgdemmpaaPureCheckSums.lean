/- CheckSums: the pure part: the sum is the reference's, and what is sealed is opened. -/
import Derived.Test.YtbbpjjbgdemmpaaPCheckSumsx2
import Derived.Laws.BitsAllLaws
import Derived.OpenShut
namespace Go.Proofs.Ytbbpjjbgdemmpaa.Pure
set_option linter.unusedVariables false
open Go.RowKit Go.Proofs.Ytbbpjjbgdemmpaa.PCheckSums Go.Proofs.YtbbpjjbgdemmpaaW.PrintWords Go.Proofs.YtbbpjjbgdemmpaaW.PrintLast

def U (x : Int) : Prop := 0 ≤ x ∧ x < 18446744073709551616
theorem wf_u64 {x : Int} (h : (Lit.int .u64 x).wf = true) : U x := by
  have := bounds_u64 h
  unfold U; omega
theorem wrap64_in {x : Int} (h0 : -9223372036854775808 ≤ x) (h1 : x < 9223372036854775808) : wrap64 x = x := by unfold wrap64; omega
theorem step_U (s x : Int) : U (check_Sum.step s x) := by unfold U check_Sum.step; omega
theorem step_eq {s x : Int} (hs : U s) (hx : U x) : check_Sum.step s x = (((s.toNat ^^^ x.toNat : Nat) : Int) * 1099511628211) % 18446744073709551616 := by
  unfold check_Sum.step; rw [u64_xor s x hs.1 hs.2 hx.1 hx.2]
theorem mul_inj {a b : Int} (ha : U a) (hb : U b) (h : (a * 1099511628211) % 18446744073709551616 = (b * 1099511628211) % 18446744073709551616) : a = b := by
  have key : ∀ c : Int, U c → (((c * 1099511628211) % 18446744073709551616) * 14886173955864302971) % 18446744073709551616 = c := by
    intro c hc
    unfold U at hc
    rw [Int.mul_emod, Int.emod_emod, ← Int.mul_emod, Int.mul_assoc, show (1099511628211 * 14886173955864302971 : Int) = 1 + 18446744073709551616 * 887285111055 by decide, Int.mul_add, Int.mul_one,
      ← Int.mul_assoc, Int.mul_comm c, Int.mul_assoc, Int.add_mul_emod_self_left]
    omega
  rw [← key a ha, ← key b hb, h]
theorem xor_U {s x : Int} (hs : U s) (hx : U x) : U ((s.toNat ^^^ x.toNat : Nat) : Int) := by
  have h1 : s.toNat < 2 ^ 64 := by have := hs.2; omega
  have h2 : x.toNat < 2 ^ 64 := by have := hx.2; omega
  have := Nat.xor_lt_two_pow h1 h2
  unfold U; omega
theorem xor_right_inj {a b c : Nat} (h : a ^^^ b = a ^^^ c) : b = c := by
  have := congrArg (a ^^^ ·) h
  simpa [← Nat.xor_assoc] using this
theorem step_inj_x {s x y : Int} (hs : U s) (hx : U x) (hy : U y) (h : check_Sum.step s x = check_Sum.step s y) : x = y := by
  rw [step_eq hs hx, step_eq hs hy] at h
  have := mul_inj (xor_U hs hx) (xor_U hs hy) h
  clear h
  have h2 : x.toNat = y.toNat := xor_right_inj (a := s.toNat) (Int.ofNat.inj this)
  clear this
  have := hx.1; have := hy.1; omega
theorem step_inj_s {s t x : Int} (hs : U s) (ht : U t) (hx : U x) (h : check_Sum.step s x = check_Sum.step t x) : s = t := by
  rw [step_eq hs hx, step_eq ht hx] at h
  have := mul_inj (xor_U hs hx) (xor_U ht hx) h
  clear h
  have h2 : s.toNat = t.toNat := xor_right_inj (a := x.toNat) (by rw [Nat.xor_comm, Nat.xor_comm x.toNat]; exact Int.ofNat.inj this)
  clear this
  have := hs.1; have := ht.1; omega
theorem fold_inj : ∀ (l : List Int) (s t : Int), (∀ x ∈ l, U x) → U s → U t → l.foldl check_Sum.step s = l.foldl check_Sum.step t → s = t
  | [], s, t, _, _, _, h => h
  | x :: l, s, t, hl, hs, ht, h => step_inj_s hs ht (hl x (by simp)) (fold_inj l _ _ (fun y hy => hl y (by simp [hy])) (step_U _ _) (step_U _ _) h)
theorem fold_U : ∀ (l : List Int) (s : Int), U s → U (l.foldl check_Sum.step s)
  | [], s, h => h
  | x :: l, s, _ => fold_U l _ (step_U _ _)
theorem sum_set : ∀ (l : List Int) (s : Int) (i : Nat) (w : Int), (∀ x ∈ l, U x) → U s → U w → i < l.length → l.foldl check_Sum.step s = (l.set i w).foldl check_Sum.step s → l[i]? = some w
  | [], s, i, w, _, _, _, h, _ => by simp at h
  | x :: l, s, 0, w, hl, hs, hw, _, h => by
    have h1 := fold_inj l _ _ (fun y hy => hl y (by simp [hy])) (step_U _ _) (step_U _ _) h
    have := step_inj_x hs (hl x (by simp)) hw h1
    simp [this]
  | x :: l, s, i + 1, w, hl, hs, hw, hi, h => by
    have := sum_set l (check_Sum.step s x) i w (fun y hy => hl y (by simp [hy])) (step_U _ _) hw (by simpa using hi) h
    simpa using this
theorem start_U : U check_Sum.start := by unfold U check_Sum.start; omega
theorem v_U (l : List Int) : U (check_Sum.v l) := fold_U l _ start_U

theorem same_refl (l : List Int) (hn : l.length ≤ 100) (d : Nat) : ∀ (k : Nat) (i : Int), 0 ≤ i → i ≤ l.length → (l.length : Int) - i = d → d < k → sumpref01_SameWords.l0 k l l (l.length : Int) i = some true := by
  induction d with
  | zero =>
    intro k i h0 h1 hd hk
    obtain ⟨k, rfl⟩ : ∃ m, k = m + 1 := ⟨k - 1, by omega⟩
    simp only [sumpref01_SameWords.l0]; rw [if_neg (by omega)]
  | succ d ih =>
    intro k i h0 h1 hd hk
    obtain ⟨k, rfl⟩ : ∃ m, k = m + 1 := ⟨k - 1, by omega⟩
    simp only [sumpref01_SameWords.l0]
    rw [if_pos (by omega), if_pos h0, if_pos (by omega), if_pos (by omega), if_pos trivial, wrap64_in (by omega) (by omega)]
    exact ih k (i + 1) (by omega) (by omega) (by omega) (by omega)
theorem same_f (l : List Int) (hn : l.length ≤ 100) : sumpref01_SameWords.f 101 l l = some true := by
  unfold sumpref01_SameWords.f
  rw [if_pos rfl]
  exact same_refl l hn l.length 101 0 (by omega) (by omega) (by omega) (by omega)

theorem seal_f (l : List Int) (hn : l.length ≤ 100) : check_Seal.f l = some (l ++ [check_Sum.v l]) := by
  unfold check_Seal.f slices_Clone_uint64_uint64.f check_Sum.f
  rw [if_pos (by omega)]
  simp only [Option.bind_some]
  rw [if_pos (by omega)]
/-- Open of words with a last one. -/
theorem open_f (l : List Int) (x : Int) (hn : l.length ≤ 100) : check_Open.f (l ++ [x]) = if check_Sum.v l = x then some (l, true) else some ([], false) := by
  have hl : ((l ++ [x]).length : Int) = l.length + 1 := by simp
  have hw : wrap64 (((l ++ [x]).length : Int) - 1) = l.length := by rw [hl, wrap64_in (by omega) (by omega)]; omega
  unfold check_Open.f
  rw [if_neg (by omega)]
  simp only [hw]
  rw [if_pos (by omega), if_pos (by omega), Int.toNat_natCast, List.take_left' rfl]
  unfold check_Sum.f
  simp only [Option.bind_some]
  rw [if_pos (by omega), show rd (l ++ [x]) (l.length : Int) = x by simp [rd]]
  by_cases h : check_Sum.v l = x
  · rw [if_pos h, if_pos h]
    unfold slices_Clone_uint64_uint64.f
    rw [if_pos (by omega)]; rfl
  · rw [if_neg h, if_neg h]
theorem awake_f : sumplaw07_awake.f = some true := by
  unfold sumplaw07_awake.f
  rw [seal_f _ (by simp)]
  simp only [Option.bind_some]
  rw [open_f _ _ (by simp), if_pos rfl]
  rfl
theorem wrap_step (s x : Int) : IntKind.u64.wrap ((Go.bits .xor .u64 s x) * 1099511628211) = check_Sum.step s x := rfl
theorem sum_loop (l : List Int) (hn : l.length ≤ 100) (d : Nat) : ∀ (k : Nat) (s : Int) (i : Nat), i ≤ l.length → l.length - i = d → d < k → sumpref01_Sum64.l0 k s l (l.length : Int) (i : Int) = some ((l.drop i).foldl check_Sum.step s) := by
  induction d with
  | zero =>
    intro k s i h1 hd hk
    obtain ⟨k, rfl⟩ : ∃ m, k = m + 1 := ⟨k - 1, by omega⟩
    simp only [sumpref01_Sum64.l0]; rw [if_neg (by omega), List.drop_eq_nil_of_le (by omega)]; rfl
  | succ d ih =>
    intro k s i h1 hd hk
    obtain ⟨k, rfl⟩ : ∃ m, k = m + 1 := ⟨k - 1, by omega⟩
    simp only [sumpref01_Sum64.l0]
    rw [if_pos (by omega), if_pos (by omega), if_pos (by omega), wrap64_in (by omega) (by omega), wrap_step]
    have e : l.drop i = rd l (i : Int) :: l.drop (i + 1) := by
      rw [List.drop_eq_getElem_cons (by omega)]; congr 1
      rw [rd, Int.toNat_natCast, List.getD_eq_getElem?_getD, List.getElem?_eq_getElem (by omega)]; rfl
    rw [e, List.foldl_cons]
    exact_mod_cast ih k (check_Sum.step s (rd l i)) (i + 1) (by omega) (by omega) (by omega)
theorem sum64_f (l : List Int) (hn : l.length ≤ 100) : sumpref01_Sum64.f 101 l = some (check_Sum.v l) := by
  have h := sum_loop l hn l.length 101 check_Sum.start 0 (by omega) (by omega) (by omega)
  exact h
theorem sum64_f2 (l : List Int) (hn : l.length ≤ 100) : sumpref01_Sum64.f 102 l = some (check_Sum.v l) := by
  have h := sum_loop l hn l.length 102 check_Sum.start 0 (by omega) (by omega) (by omega)
  exact h
theorem more_f (a b : Int) : check_More.f a b = some (check_Sum.step a b) := rfl
theorem CheckSums : sumplaw07_CheckSums.Pure := by
  intro l a1 a2 _ _ hwf h1 h2
  refine ⟨102, ?_⟩
  unfold sumplaw07_CheckSums.f
  rw [awake_f, Option.bind_some, if_pos rfl]
  by_cases hn : (l.length : Int) > 100
  · rw [if_pos hn]
  rw [if_neg hn]
  have hv : check_Sum.f l = some (check_Sum.v l) := by unfold check_Sum.f; rfl
  rcases List.eq_nil_or_concat l with rfl | ⟨l', x, rfl⟩
  · rw [show check_Open.f [] = some ([], false) from rfl, Option.bind_some, if_neg (by decide)]
    rw [show (102 : Nat) = 101 + 1 from rfl, sumplaw07_CheckSums.j0, hv, Option.bind_some, sum64_f _ (by simp), Option.bind_some, if_pos rfl, more_f, Option.bind_some, wrap_step, if_pos rfl]
    rw [show check_Start.f = some (check_Sum.v []) from rfl, Option.bind_some, Option.bind_some, if_pos rfl]
    rfl
  · rw [List.concat_eq_append] at *
    have hl : ((l' ++ [x]).length : Int) = l'.length + 1 := by simp
    have hlN : (l' ++ [x]).length = l'.length + 1 := by simp
    have hw : wrap64 (((l' ++ [x]).length : Int) - 1) = l'.length := by rw [hl, wrap64_in (by omega) (by omega)]; omega
    have hr : rd (l' ++ [x]) (l'.length : Int) = x := by simp [rd]
    rw [hl] at hn
    have hS := sum64_f (l' ++ [x]) (by omega)
    have hE : sumpref01_Sum64.f 101 ([] : List Int) = some check_Sum.start := sum64_f [] (by simp)
    rw [hw, open_f _ _ (by omega)]
    have key : ∀ (x1 : List Int) (b : Bool), (b = true → x1 = l') → (b = false → x1 = []) → (b == (check_Sum.v l' == x)) = true →
        sumplaw07_CheckSums.j0 102 (l' ++ [x]) a1 a2 x1 b ((l' ++ [x]).length : Int) (check_Sum.v l' == x) = some true := by
      intro x1 b hb1 hb2 hb
      rw [show (102 : Nat) = 101 + 1 from rfl, sumplaw07_CheckSums.j0, hv, Option.bind_some, hS, Option.bind_some, if_pos rfl, more_f, Option.bind_some, wrap_step, if_pos rfl]
      rw [show check_Start.f = some check_Sum.start from rfl, Option.bind_some, hE, Option.bind_some, if_pos rfl, if_pos hb, hw]
      cases b with
      | true =>
        rw [if_pos rfl, if_pos (by omega), if_pos (by omega), Int.toNat_natCast, List.take_left' rfl, hb1 rfl, same_f _ (by omega), Option.bind_some, if_pos rfl]
      | false =>
        rw [if_neg (by decide), hb2 rfl]; rfl
    by_cases h : check_Sum.v l' = x
    · rw [if_pos h, Option.bind_some, if_pos (by omega), if_pos (by omega), if_pos (by omega), Int.toNat_natCast, List.take_left' rfl, sum64_f2 _ (by omega), Option.bind_some, if_pos (by omega), hr]
      exact key l' true (fun _ => rfl) (fun h => by cases h) (by rw [beq_iff_eq.mpr h]; rfl)
    · rw [if_neg h, Option.bind_some, if_pos (by omega), if_pos (by omega), if_pos (by omega), Int.toNat_natCast, List.take_left' rfl, sum64_f2 _ (by omega), Option.bind_some, if_pos (by omega), hr]
      exact key [] false (fun h => by cases h) (fun _ => rfl) (by rw [beq_eq_false_iff_ne.mpr h]; rfl)
theorem CheckSums_walk (A0 : Option Addr) (c0 : Nat) (l0 : (List Int)) (a1 : Int) (a2 : Int) (w : World) (hl0 : l0.length ≤ c0) (hr0 : Kd.C (Kd.int .u64) w A0 l0.length l0) (g0 : (l0.length ≤ maxLen ∧ ∀ y1 ∈ l0, (Lit.int .u64 y1).wf = true)) (y0 : l0.length * 8 ≤ 140737488351232) (w1 : (Lit.int .u64 a1).wf = true) (w2 : (Lit.int .u64 a2).wf = true) :
    Calls Try.prog 5 #[.slice A0 l0.length c0, .int .u64 a1, .int .u64 a2] w fun e w' => e = .returned (.bool true) ∧ Below w.heap.size w w' := by
  obtain ⟨k, h⟩ := CheckSums l0 a1 a2 g0.1 y0 g0.2 w1 w2
  exact sumplaw07_CheckSums.calls k A0 c0 l0 a1 a2 true w hr0 hl0 h rfl
end Go.Proofs.Ytbbpjjbgdemmpaa.Pure
