/- CheckBack: the pure part: what was sealed is opened, and a changed word changes the sum. -/
import Derived.Test.YtbbpjjbgdemmpaaPCheckBackx2
import Derived.Laws.BitsAllLaws
import Derived.OpenShut
namespace Go.Proofs.Ytbbpjjbgdemmpaa.Pure
set_option linter.unusedVariables false
open Go.RowKit Go.Proofs.Ytbbpjjbgdemmpaa.PCheckBack Go.Proofs.YtbbpjjbgdemmpaaW.PrintWords Go.Proofs.YtbbpjjbgdemmpaaW.PrintLast

def U (x : Int) : Prop := 0 ≤ x ∧ x < 18446744073709551616
theorem wf_u64 {x : Int} (h : (Lit.int .u64 x).wf = true) : U x := by
  have := bounds_u64 h
  unfold U; omega
theorem wrap64_in {x : Int} (h0 : -9223372036854775808 ≤ x) (h1 : x < 9223372036854775808) : wrap64 x = x := by unfold wrap64; omega
theorem step_U (s x : Int) : U (check_Sum.step s x) := by unfold U check_Sum.step; omega
theorem step_eq {s x : Int} (hs : U s) (hx : U x) : check_Sum.step s x = (((s.toNat ^^^ x.toNat : Nat) : Int) * 1099511628211) % 18446744073709551616 := by
  unfold check_Sum.step; rw [u64_xor s x hs.1 hs.2 hx.1 hx.2]
theorem mul_inj {a b : Int} (ha : U a) (hb : U b) (h : (a * 1099511628211) % 18446744073709551616 = (b * 1099511628211) % 18446744073709551616) : a = b := by
  have key : ∀ c : Int, U c → (((c * 1099511628211) % 18446744073709551616) * 14886173955864302971) % 18446744073709551616 = c := by
    intro c hc
    unfold U at hc
    rw [Int.mul_emod, Int.emod_emod, ← Int.mul_emod, Int.mul_assoc, show (1099511628211 * 14886173955864302971 : Int) = 1 + 18446744073709551616 * 887285111055 by decide, Int.mul_add, Int.mul_one,
      ← Int.mul_assoc, Int.mul_comm c, Int.mul_assoc, Int.add_mul_emod_self_left]
    omega
  rw [← key a ha, ← key b hb, h]
theorem xor_U {s x : Int} (hs : U s) (hx : U x) : U ((s.toNat ^^^ x.toNat : Nat) : Int) := by
  have h1 : s.toNat < 2 ^ 64 := by have := hs.2; omega
  have h2 : x.toNat < 2 ^ 64 := by have := hx.2; omega
  have := Nat.xor_lt_two_pow h1 h2
  unfold U; omega
theorem xor_right_inj {a b c : Nat} (h : a ^^^ b = a ^^^ c) : b = c := by
  have := congrArg (a ^^^ ·) h
  simpa [← Nat.xor_assoc] using this
theorem step_inj_x {s x y : Int} (hs : U s) (hx : U x) (hy : U y) (h : check_Sum.step s x = check_Sum.step s y) : x = y := by
  rw [step_eq hs hx, step_eq hs hy] at h
  have := mul_inj (xor_U hs hx) (xor_U hs hy) h
  clear h
  have h2 : x.toNat = y.toNat := xor_right_inj (a := s.toNat) (Int.ofNat.inj this)
  clear this
  have := hx.1; have := hy.1; omega
theorem step_inj_s {s t x : Int} (hs : U s) (ht : U t) (hx : U x) (h : check_Sum.step s x = check_Sum.step t x) : s = t := by
  rw [step_eq hs hx, step_eq ht hx] at h
  have := mul_inj (xor_U hs hx) (xor_U ht hx) h
  clear h
  have h2 : s.toNat = t.toNat := xor_right_inj (a := x.toNat) (by rw [Nat.xor_comm, Nat.xor_comm x.toNat]; exact Int.ofNat.inj this)
  clear this
  have := hs.1; have := ht.1; omega
theorem fold_inj : ∀ (l : List Int) (s t : Int), (∀ x ∈ l, U x) → U s → U t → l.foldl check_Sum.step s = l.foldl check_Sum.step t → s = t
  | [], s, t, _, _, _, h => h
  | x :: l, s, t, hl, hs, ht, h => step_inj_s hs ht (hl x (by simp)) (fold_inj l _ _ (fun y hy => hl y (by simp [hy])) (step_U _ _) (step_U _ _) h)
theorem fold_U : ∀ (l : List Int) (s : Int), U s → U (l.foldl check_Sum.step s)
  | [], s, h => h
  | x :: l, s, _ => fold_U l _ (step_U _ _)
theorem sum_set : ∀ (l : List Int) (s : Int) (i : Nat) (w : Int), (∀ x ∈ l, U x) → U s → U w → i < l.length → l.foldl check_Sum.step s = (l.set i w).foldl check_Sum.step s → l[i]? = some w
  | [], s, i, w, _, _, _, h, _ => by simp at h
  | x :: l, s, 0, w, hl, hs, hw, _, h => by
    have h1 := fold_inj l _ _ (fun y hy => hl y (by simp [hy])) (step_U _ _) (step_U _ _) h
    have := step_inj_x hs (hl x (by simp)) hw h1
    simp [this]
  | x :: l, s, i + 1, w, hl, hs, hw, hi, h => by
    have := sum_set l (check_Sum.step s x) i w (fun y hy => hl y (by simp [hy])) (step_U _ _) hw (by simpa using hi) h
    simpa using this
theorem start_U : U check_Sum.start := by unfold U check_Sum.start; omega
theorem v_U (l : List Int) : U (check_Sum.v l) := fold_U l _ start_U

theorem same_refl (l : List Int) (hn : l.length ≤ 100) (d : Nat) : ∀ (k : Nat) (i : Int), 0 ≤ i → i ≤ l.length → (l.length : Int) - i = d → d < k → sumpref01_SameWords.l0 k l l (l.length : Int) i = some true := by
  induction d with
  | zero =>
    intro k i h0 h1 hd hk
    obtain ⟨k, rfl⟩ : ∃ m, k = m + 1 := ⟨k - 1, by omega⟩
    simp only [sumpref01_SameWords.l0]; rw [if_neg (by omega)]
  | succ d ih =>
    intro k i h0 h1 hd hk
    obtain ⟨k, rfl⟩ : ∃ m, k = m + 1 := ⟨k - 1, by omega⟩
    simp only [sumpref01_SameWords.l0]
    rw [if_pos (by omega), if_pos h0, if_pos (by omega), if_pos (by omega), if_pos trivial, wrap64_in (by omega) (by omega)]
    exact ih k (i + 1) (by omega) (by omega) (by omega) (by omega)
theorem same_f (l : List Int) (hn : l.length ≤ 100) : sumpref01_SameWords.f 101 l l = some true := by
  unfold sumpref01_SameWords.f
  rw [if_pos rfl]
  exact same_refl l hn l.length 101 0 (by omega) (by omega) (by omega) (by omega)

theorem seal_f (l : List Int) (hn : l.length ≤ 100) : check_Seal.f l = some (l ++ [check_Sum.v l]) := by
  unfold check_Seal.f slices_Clone_uint64_uint64.f check_Sum.f
  rw [if_pos (by omega)]
  simp only [Option.bind_some]
  rw [if_pos (by omega)]
/-- Open of words with a last one. -/
theorem open_f (l : List Int) (x : Int) (hn : l.length ≤ 100) : check_Open.f (l ++ [x]) = if check_Sum.v l = x then some (l, true) else some ([], false) := by
  have hl : ((l ++ [x]).length : Int) = l.length + 1 := by simp
  have hw : wrap64 (((l ++ [x]).length : Int) - 1) = l.length := by rw [hl, wrap64_in (by omega) (by omega)]; omega
  unfold check_Open.f
  rw [if_neg (by omega)]
  simp only [hw]
  rw [if_pos (by omega), if_pos (by omega), Int.toNat_natCast, List.take_left' rfl]
  unfold check_Sum.f
  simp only [Option.bind_some]
  rw [if_pos (by omega), show rd (l ++ [x]) (l.length : Int) = x by simp [rd]]
  by_cases h : check_Sum.v l = x
  · rw [if_pos h, if_pos h]
    unfold slices_Clone_uint64_uint64.f
    rw [if_pos (by omega)]; rfl
  · rw [if_neg h, if_neg h]
theorem awake_f : sumplaw07_awake.f = some true := by
  unfold sumplaw07_awake.f
  rw [seal_f _ (by simp)]
  simp only [Option.bind_some]
  rw [open_f _ _ (by simp), if_pos rfl]
  rfl
theorem CheckBack : sumplaw07_CheckBack.Pure := by
  intro l i w _ _ hwf hi hw
  refine ⟨101, ?_⟩
  unfold sumplaw07_CheckBack.f
  rw [awake_f]
  simp only [Option.bind_some, if_true]
  by_cases hn : (l.length : Int) > 100
  · rw [if_pos hn]
  rw [if_neg hn, seal_f l (by omega)]
  simp only [Option.bind_some]
  rw [open_f l _ (by omega), if_pos rfl]
  simp only [Option.bind_some, if_true]
  rw [same_f l (by omega), Option.bind_some, if_pos rfl]
  have hlen : ((l ++ [check_Sum.v l]).length : Int) = l.length + 1 := by simp
  have hlenN : (l ++ [check_Sum.v l]).length = l.length + 1 := by simp
  have hb : (((l ++ [check_Sum.v l]).length : Int) != wrap64 ((l.length : Int) + 1)) = false := by
    rw [wrap64_in (x := (l.length : Int) + 1) (by omega) (by omega), hlen]; exact bne_self_eq_false _
  rw [hb]
  clear hb
  simp only [sumplaw07_CheckBack.j0, Bool.false_eq_true, if_false]
  by_cases h0 : i < 0
  · rw [if_pos h0]
  rw [if_neg h0]
  by_cases h1 : i ≥ ((l ++ [check_Sum.v l]).length : Int)
  · rw [if_pos h1]
  rw [if_neg h1, if_pos (by omega), if_pos (by omega)]
  by_cases h2 : rd (l ++ [check_Sum.v l]) i = w
  · rw [if_pos h2]
  rw [if_neg h2]
  rw [hlen] at h1
  by_cases h3 : i = l.length
  · subst h3
    have e : rd (l ++ [check_Sum.v l]) (l.length : Int) = check_Sum.v l := by simp [rd]
    rw [e] at h2
    rw [Int.toNat_natCast, show (l ++ [check_Sum.v l]).set l.length w = l ++ [w] by simp, open_f l w (by omega), if_neg h2]
    rfl
  · have hlt : i.toNat < l.length := by omega
    rw [List.set_append_left _ _ hlt, open_f _ _ (by simp; omega), if_neg ?_]
    · rfl
    · intro h
      have := sum_set l _ i.toNat w (fun x hx => wf_u64 (hwf x hx)) start_U (wf_u64 hw) hlt h.symm
      apply h2
      rw [rd, List.getD_eq_getElem?_getD, List.getElem?_append_left hlt, this]; rfl
theorem CheckBack_walk (A0 : Option Addr) (c0 : Nat) (l0 : (List Int)) (a1 : Int) (a2 : Int) (w : World) (hl0 : l0.length ≤ c0) (hr0 : Kd.C (Kd.int .u64) w A0 l0.length l0) (g0 : (l0.length ≤ maxLen ∧ ∀ y1 ∈ l0, (Lit.int .u64 y1).wf = true)) (y0 : l0.length * 8 ≤ 140737488351232) (w1 : (Lit.int .i64 a1).wf = true) (w2 : (Lit.int .u64 a2).wf = true) :
    Calls Try.prog 6 #[.slice A0 l0.length c0, .int .i64 a1, .int .u64 a2] w fun e w' => e = .returned (.bool true) ∧ Below w.heap.size w w' := by
  obtain ⟨k, h⟩ := CheckBack l0 a1 a2 g0.1 y0 g0.2 w1 w2
  exact sumplaw07_CheckBack.calls k A0 c0 l0 a1 a2 true w hr0 hl0 h rfl
end Go.Proofs.Ytbbpjjbgdemmpaa.Pure
