/- CallWords: the walk: for any two ints and any string the Go text returns true and leaves what was there as it was. -/
import Derived.Test.YtbbpjjbgdemmpaaPCallWordsx
import Derived.WalkLawsBesides
import Derived.WalkSpells
namespace Go.Proofs.Ytbbpjjbgdemmpaa.CallWordsW
set_option linter.unusedVariables false
set_option linter.unusedSimpArgs false
open Go.RowKit YtbbpjjbgdemmpaaW.PrintWords PCallWords
def cw (a : Int) : ByteArray := if 0 ≤ a then call_Word.wd a.toNat else ⟨#[]⟩
def ck (s : ByteArray) : Int := call_Kind.b s 18 0
theorem word_any (a : Int) (w : World) : Calls Try.prog 18 #[.int .i64 a] w fun e w' => e = .returned (.string (cw a)) ∧ Below w.heap.size w w' := call_Word.calls a (cw a) w rfl
theorem kind_any (s : ByteArray) (w : World) : Calls Try.prog 19 #[.string s] w fun e w' => e = .returned (.int .i64 (ck s)) ∧ Below w.heap.size w w' := call_Kind.calls s (ck s) w rfl
theorem awake_any (w : World) : Calls Try.prog 17 #[] w fun e w' => e = .returned (.bool true) ∧ Below w.heap.size w w' := sumplaw25_awake.calls 20 true w (by decide +kernel)

theorem wd_out {i : Nat} (h : 18 ≤ i) : call_Word.wd i = ⟨#[]⟩ := by
  unfold call_Word.wd; rw [List.getD_eq_getElem?_getD, List.getElem?_eq_none (by exact h)]; rfl
theorem wd_in : ∀ i, i < 18 → 0 < i → ((call_Word.wd i).toList == []) = false := by decide +kernel
theorem wd_kind : ∀ i, i < 18 → 0 < i → ck (call_Word.wd i) = (i : Int) := by decide +kernel
theorem cw_in {a : Int} (h0 : 1 ≤ a) (h1 : a ≤ 17) : ((cw a).toList == []) = false := by
  unfold cw; rw [if_pos (by omega)]; exact wd_in _ (by omega) (by omega)
theorem cw_out {a : Int} (h : a < 1 ∨ 17 < a) : cw a = ⟨#[]⟩ := by
  unfold cw
  split
  · rcases h with h | h
    · obtain rfl : a = 0 := by omega
      rfl
    · exact wd_out (by omega)
  · rfl
theorem ck_cw {a : Int} (h0 : 1 ≤ a) (h1 : a ≤ 17) : ck (cw a) = a := by
  unfold cw; rw [if_pos (by omega), wd_kind _ (by omega) (by omega)]; omega
theorem kind_b (s : ByteArray) : ∀ d k, k + d = 18 → (call_Kind.b s d k = 0 ∧ ∀ j, k ≤ j → j < 18 → 0 < j → call_Word.wd j ≠ s) ∨ (0 < call_Kind.b s d k ∧ call_Kind.b s d k < 18 ∧ call_Word.wd (call_Kind.b s d k).toNat = s) := by
  intro d
  induction d with
  | zero => intro k hk; left; exact ⟨rfl, fun j h1 h2 => by omega⟩
  | succ d ih =>
    intro k hk
    unfold call_Kind.b
    by_cases h : 0 < k ∧ call_Word.wd k = s
    · rw [if_pos h]; right; exact ⟨by omega, by omega, by rw [Int.toNat_natCast]; exact h.2⟩
    · rw [if_neg h]
      rcases ih (k + 1) (by omega) with ⟨h1, h2⟩ | h1
      · left
        refine ⟨h1, fun j hj1 hj2 hj3 => ?_⟩
        by_cases e : j = k
        · subst e; exact fun hw => h ⟨hj3, hw⟩
        · exact h2 j (by omega) hj2 hj3
      · exact .inr h1
theorem ck_is (s : ByteArray) : (ck s = 0 ∧ ∀ a, 1 ≤ a → a ≤ 17 → cw a ≠ s) ∨ (1 ≤ ck s ∧ ck s ≤ 17 ∧ cw (ck s) = s) := by
  rcases kind_b s 18 0 rfl with ⟨h1, h2⟩ | ⟨h1, h2, h3⟩
  · left; refine ⟨h1, fun a h0 h => ?_⟩
    unfold cw; rw [if_pos (by omega)]; exact h2 _ (by omega) (by omega) (by omega)
  · right
    have e : ck s = call_Kind.b s 18 0 := rfl
    refine ⟨by omega, by omega, ?_⟩
    unfold cw; rw [if_pos (by omega)]; exact h3
theorem nil_ne {l : List UInt8} (h : ¬ (l == []) = true) : (([] : List UInt8) == l) = false := by
  cases l with
  | nil => simp at h
  | cons a t => rfl
theorem cw_zero : (cw 0).toList = [] := by decide +kernel

set_option maxHeartbeats 1000000 in
theorem law_in_eq_zero_e (a b : Int) (s : ByteArray) (w : World) (hs : s.size ≤ 30) (h0 : 1 ≤ a) (h1 : a ≤ 17) (hi : ((cw a).toList == []) = false) (hk : ck (cw a) = a) (hab : b = a) (hz : ck s = 0) (he : (s.toList == []) = true) :
    Calls Try.prog 4 #[.int .i64 a, .int .i64 b, .string s] w fun e w' => e = .returned (.bool true) ∧ Below w.heap.size w w' := by
  have HB := Below.refl w.heap.size w
  have hs1 : decide ((30 : Int) < (s.size : Int)) = false := decide_eq_false (by omega)
  have hs2 : decide (30 < s.size) = false := decide_eq_false (by omega)
  subst hab
  go_enter Try.func4, Try.ntmps4
  go_wp2_with (first | (go_at_call 17; refine (awake_any _).mono ?_; rintro e w1 ⟨rfl, hb⟩; replace HB := L.bel HB hb; clear hb) | (go_at_call 18; refine (word_any _ _).mono ?_; rintro e w1 ⟨rfl, hb⟩; replace HB := L.bel HB hb; clear hb) | (go_at_call 19; refine (kind_any _ _).mono ?_; rintro e w1 ⟨rfl, hb⟩; replace HB := L.bel HB hb; clear hb))
  all_goals
    go_ret
    exact ⟨L.ret_bool (by simp [*]), HB⟩
set_option maxHeartbeats 1000000 in
theorem law_in_eq_zero_n (a b : Int) (s : ByteArray) (w : World) (hs : s.size ≤ 30) (h0 : 1 ≤ a) (h1 : a ≤ 17) (hi : ((cw a).toList == []) = false) (hk : ck (cw a) = a) (hab : b = a) (hz : ck s = 0) (he : (s.toList == []) = false) (hc : ((cw 0).toList == s.toList) = false) :
    Calls Try.prog 4 #[.int .i64 a, .int .i64 b, .string s] w fun e w' => e = .returned (.bool true) ∧ Below w.heap.size w w' := by
  have HB := Below.refl w.heap.size w
  have hs1 : decide ((30 : Int) < (s.size : Int)) = false := decide_eq_false (by omega)
  have hs2 : decide (30 < s.size) = false := decide_eq_false (by omega)
  subst hab
  go_enter Try.func4, Try.ntmps4
  go_wp2_with (first | (go_at_call 17; refine (awake_any _).mono ?_; rintro e w1 ⟨rfl, hb⟩; replace HB := L.bel HB hb; clear hb) | (go_at_call 18; refine (word_any _ _).mono ?_; rintro e w1 ⟨rfl, hb⟩; replace HB := L.bel HB hb; clear hb) | (go_at_call 19; refine (kind_any _ _).mono ?_; rintro e w1 ⟨rfl, hb⟩; replace HB := L.bel HB hb; clear hb))
  all_goals
    go_ret
    exact ⟨L.ret_bool (by simp [*]), HB⟩
set_option maxHeartbeats 1000000 in
theorem law_in_eq_pos (a b : Int) (s : ByteArray) (w : World) (hs : s.size ≤ 30) (h0 : 1 ≤ a) (h1 : a ≤ 17) (hi : ((cw a).toList == []) = false) (hk : ck (cw a) = a) (hab : b = a) (hz : 1 ≤ ck s) (hc : ((cw (ck s)).toList == s.toList) = true) :
    Calls Try.prog 4 #[.int .i64 a, .int .i64 b, .string s] w fun e w' => e = .returned (.bool true) ∧ Below w.heap.size w w' := by
  have HB := Below.refl w.heap.size w
  have hs1 : decide ((30 : Int) < (s.size : Int)) = false := decide_eq_false (by omega)
  have hs2 : decide (30 < s.size) = false := decide_eq_false (by omega)
  subst hab
  go_enter Try.func4, Try.ntmps4
  go_wp2_with (first | (go_at_call 17; refine (awake_any _).mono ?_; rintro e w1 ⟨rfl, hb⟩; replace HB := L.bel HB hb; clear hb) | (go_at_call 18; refine (word_any _ _).mono ?_; rintro e w1 ⟨rfl, hb⟩; replace HB := L.bel HB hb; clear hb) | (go_at_call 19; refine (kind_any _ _).mono ?_; rintro e w1 ⟨rfl, hb⟩; replace HB := L.bel HB hb; clear hb))
  all_goals
    go_ret
    exact ⟨L.ret_bool (by simp [*]), HB⟩
set_option maxHeartbeats 1000000 in
theorem law_in_ne_zero_e (a b : Int) (s : ByteArray) (w : World) (hs : s.size ≤ 30) (h0 : 1 ≤ a) (h1 : a ≤ 17) (hi : ((cw a).toList == []) = false) (hk : ck (cw a) = a) (hab : (a == b) = false) (hcw : ((cw a).toList == (cw b).toList) = false) (hz : ck s = 0) (he : (s.toList == []) = true) :
    Calls Try.prog 4 #[.int .i64 a, .int .i64 b, .string s] w fun e w' => e = .returned (.bool true) ∧ Below w.heap.size w w' := by
  have HB := Below.refl w.heap.size w
  have hs1 : decide ((30 : Int) < (s.size : Int)) = false := decide_eq_false (by omega)
  have hs2 : decide (30 < s.size) = false := decide_eq_false (by omega)
  go_enter Try.func4, Try.ntmps4
  go_wp2_with (first | (go_at_call 17; refine (awake_any _).mono ?_; rintro e w1 ⟨rfl, hb⟩; replace HB := L.bel HB hb; clear hb) | (go_at_call 18; refine (word_any _ _).mono ?_; rintro e w1 ⟨rfl, hb⟩; replace HB := L.bel HB hb; clear hb) | (go_at_call 19; refine (kind_any _ _).mono ?_; rintro e w1 ⟨rfl, hb⟩; replace HB := L.bel HB hb; clear hb))
  all_goals
    go_ret
    exact ⟨L.ret_bool (by simp [*]), HB⟩
set_option maxHeartbeats 1000000 in
theorem law_in_ne_zero_n (a b : Int) (s : ByteArray) (w : World) (hs : s.size ≤ 30) (h0 : 1 ≤ a) (h1 : a ≤ 17) (hi : ((cw a).toList == []) = false) (hk : ck (cw a) = a) (hab : (a == b) = false) (hcw : ((cw a).toList == (cw b).toList) = false) (hz : ck s = 0) (he : (s.toList == []) = false) (hc : ((cw 0).toList == s.toList) = false) :
    Calls Try.prog 4 #[.int .i64 a, .int .i64 b, .string s] w fun e w' => e = .returned (.bool true) ∧ Below w.heap.size w w' := by
  have HB := Below.refl w.heap.size w
  have hs1 : decide ((30 : Int) < (s.size : Int)) = false := decide_eq_false (by omega)
  have hs2 : decide (30 < s.size) = false := decide_eq_false (by omega)
  go_enter Try.func4, Try.ntmps4
  go_wp2_with (first | (go_at_call 17; refine (awake_any _).mono ?_; rintro e w1 ⟨rfl, hb⟩; replace HB := L.bel HB hb; clear hb) | (go_at_call 18; refine (word_any _ _).mono ?_; rintro e w1 ⟨rfl, hb⟩; replace HB := L.bel HB hb; clear hb) | (go_at_call 19; refine (kind_any _ _).mono ?_; rintro e w1 ⟨rfl, hb⟩; replace HB := L.bel HB hb; clear hb))
  all_goals
    go_ret
    exact ⟨L.ret_bool (by simp [*]), HB⟩
set_option maxHeartbeats 1000000 in
theorem law_in_ne_pos (a b : Int) (s : ByteArray) (w : World) (hs : s.size ≤ 30) (h0 : 1 ≤ a) (h1 : a ≤ 17) (hi : ((cw a).toList == []) = false) (hk : ck (cw a) = a) (hab : (a == b) = false) (hcw : ((cw a).toList == (cw b).toList) = false) (hz : 1 ≤ ck s) (hc : ((cw (ck s)).toList == s.toList) = true) :
    Calls Try.prog 4 #[.int .i64 a, .int .i64 b, .string s] w fun e w' => e = .returned (.bool true) ∧ Below w.heap.size w w' := by
  have HB := Below.refl w.heap.size w
  have hs1 : decide ((30 : Int) < (s.size : Int)) = false := decide_eq_false (by omega)
  have hs2 : decide (30 < s.size) = false := decide_eq_false (by omega)
  go_enter Try.func4, Try.ntmps4
  go_wp2_with (first | (go_at_call 17; refine (awake_any _).mono ?_; rintro e w1 ⟨rfl, hb⟩; replace HB := L.bel HB hb; clear hb) | (go_at_call 18; refine (word_any _ _).mono ?_; rintro e w1 ⟨rfl, hb⟩; replace HB := L.bel HB hb; clear hb) | (go_at_call 19; refine (kind_any _ _).mono ?_; rintro e w1 ⟨rfl, hb⟩; replace HB := L.bel HB hb; clear hb))
  all_goals
    go_ret
    exact ⟨L.ret_bool (by simp [*]), HB⟩
set_option maxHeartbeats 1000000 in
theorem law_lo_zero_e (a b : Int) (s : ByteArray) (w : World) (hs : s.size ≤ 30) (h0 : a < 1) (hi : ((cw a).toList == []) = true) (hz : ck s = 0) (he : (s.toList == []) = true) :
    Calls Try.prog 4 #[.int .i64 a, .int .i64 b, .string s] w fun e w' => e = .returned (.bool true) ∧ Below w.heap.size w w' := by
  have HB := Below.refl w.heap.size w
  have hs1 : decide ((30 : Int) < (s.size : Int)) = false := decide_eq_false (by omega)
  have hs2 : decide (30 < s.size) = false := decide_eq_false (by omega)
  go_enter Try.func4, Try.ntmps4
  go_wp2_with (first | (go_at_call 17; refine (awake_any _).mono ?_; rintro e w1 ⟨rfl, hb⟩; replace HB := L.bel HB hb; clear hb) | (go_at_call 18; refine (word_any _ _).mono ?_; rintro e w1 ⟨rfl, hb⟩; replace HB := L.bel HB hb; clear hb) | (go_at_call 19; refine (kind_any _ _).mono ?_; rintro e w1 ⟨rfl, hb⟩; replace HB := L.bel HB hb; clear hb))
  all_goals
    go_ret
    exact ⟨L.ret_bool (by simp [*]), HB⟩
set_option maxHeartbeats 1000000 in
theorem law_lo_zero_n (a b : Int) (s : ByteArray) (w : World) (hs : s.size ≤ 30) (h0 : a < 1) (hi : ((cw a).toList == []) = true) (hz : ck s = 0) (he : (s.toList == []) = false) (hc : ((cw 0).toList == s.toList) = false) :
    Calls Try.prog 4 #[.int .i64 a, .int .i64 b, .string s] w fun e w' => e = .returned (.bool true) ∧ Below w.heap.size w w' := by
  have HB := Below.refl w.heap.size w
  have hs1 : decide ((30 : Int) < (s.size : Int)) = false := decide_eq_false (by omega)
  have hs2 : decide (30 < s.size) = false := decide_eq_false (by omega)
  go_enter Try.func4, Try.ntmps4
  go_wp2_with (first | (go_at_call 17; refine (awake_any _).mono ?_; rintro e w1 ⟨rfl, hb⟩; replace HB := L.bel HB hb; clear hb) | (go_at_call 18; refine (word_any _ _).mono ?_; rintro e w1 ⟨rfl, hb⟩; replace HB := L.bel HB hb; clear hb) | (go_at_call 19; refine (kind_any _ _).mono ?_; rintro e w1 ⟨rfl, hb⟩; replace HB := L.bel HB hb; clear hb))
  all_goals
    go_ret
    exact ⟨L.ret_bool (by simp [*]), HB⟩
set_option maxHeartbeats 1000000 in
theorem law_lo_pos (a b : Int) (s : ByteArray) (w : World) (hs : s.size ≤ 30) (h0 : a < 1) (hi : ((cw a).toList == []) = true) (hz : 1 ≤ ck s) (hc : ((cw (ck s)).toList == s.toList) = true) :
    Calls Try.prog 4 #[.int .i64 a, .int .i64 b, .string s] w fun e w' => e = .returned (.bool true) ∧ Below w.heap.size w w' := by
  have HB := Below.refl w.heap.size w
  have hs1 : decide ((30 : Int) < (s.size : Int)) = false := decide_eq_false (by omega)
  have hs2 : decide (30 < s.size) = false := decide_eq_false (by omega)
  go_enter Try.func4, Try.ntmps4
  go_wp2_with (first | (go_at_call 17; refine (awake_any _).mono ?_; rintro e w1 ⟨rfl, hb⟩; replace HB := L.bel HB hb; clear hb) | (go_at_call 18; refine (word_any _ _).mono ?_; rintro e w1 ⟨rfl, hb⟩; replace HB := L.bel HB hb; clear hb) | (go_at_call 19; refine (kind_any _ _).mono ?_; rintro e w1 ⟨rfl, hb⟩; replace HB := L.bel HB hb; clear hb))
  all_goals
    go_ret
    exact ⟨L.ret_bool (by simp [*]), HB⟩
set_option maxHeartbeats 1000000 in
theorem law_hi_zero_e (a b : Int) (s : ByteArray) (w : World) (hs : s.size ≤ 30) (h0 : 17 < a) (hi : ((cw a).toList == []) = true) (hz : ck s = 0) (he : (s.toList == []) = true) :
    Calls Try.prog 4 #[.int .i64 a, .int .i64 b, .string s] w fun e w' => e = .returned (.bool true) ∧ Below w.heap.size w w' := by
  have HB := Below.refl w.heap.size w
  have hs1 : decide ((30 : Int) < (s.size : Int)) = false := decide_eq_false (by omega)
  have hs2 : decide (30 < s.size) = false := decide_eq_false (by omega)
  go_enter Try.func4, Try.ntmps4
  go_wp2_with (first | (go_at_call 17; refine (awake_any _).mono ?_; rintro e w1 ⟨rfl, hb⟩; replace HB := L.bel HB hb; clear hb) | (go_at_call 18; refine (word_any _ _).mono ?_; rintro e w1 ⟨rfl, hb⟩; replace HB := L.bel HB hb; clear hb) | (go_at_call 19; refine (kind_any _ _).mono ?_; rintro e w1 ⟨rfl, hb⟩; replace HB := L.bel HB hb; clear hb))
  all_goals
    go_ret
    exact ⟨L.ret_bool (by simp [*]), HB⟩
set_option maxHeartbeats 1000000 in
theorem law_hi_zero_n (a b : Int) (s : ByteArray) (w : World) (hs : s.size ≤ 30) (h0 : 17 < a) (hi : ((cw a).toList == []) = true) (hz : ck s = 0) (he : (s.toList == []) = false) (hc : ((cw 0).toList == s.toList) = false) :
    Calls Try.prog 4 #[.int .i64 a, .int .i64 b, .string s] w fun e w' => e = .returned (.bool true) ∧ Below w.heap.size w w' := by
  have HB := Below.refl w.heap.size w
  have hs1 : decide ((30 : Int) < (s.size : Int)) = false := decide_eq_false (by omega)
  have hs2 : decide (30 < s.size) = false := decide_eq_false (by omega)
  go_enter Try.func4, Try.ntmps4
  go_wp2_with (first | (go_at_call 17; refine (awake_any _).mono ?_; rintro e w1 ⟨rfl, hb⟩; replace HB := L.bel HB hb; clear hb) | (go_at_call 18; refine (word_any _ _).mono ?_; rintro e w1 ⟨rfl, hb⟩; replace HB := L.bel HB hb; clear hb) | (go_at_call 19; refine (kind_any _ _).mono ?_; rintro e w1 ⟨rfl, hb⟩; replace HB := L.bel HB hb; clear hb))
  all_goals
    go_ret
    exact ⟨L.ret_bool (by simp [*]), HB⟩
set_option maxHeartbeats 1000000 in
theorem law_hi_pos (a b : Int) (s : ByteArray) (w : World) (hs : s.size ≤ 30) (h0 : 17 < a) (hi : ((cw a).toList == []) = true) (hz : 1 ≤ ck s) (hc : ((cw (ck s)).toList == s.toList) = true) :
    Calls Try.prog 4 #[.int .i64 a, .int .i64 b, .string s] w fun e w' => e = .returned (.bool true) ∧ Below w.heap.size w w' := by
  have HB := Below.refl w.heap.size w
  have hs1 : decide ((30 : Int) < (s.size : Int)) = false := decide_eq_false (by omega)
  have hs2 : decide (30 < s.size) = false := decide_eq_false (by omega)
  go_enter Try.func4, Try.ntmps4
  go_wp2_with (first | (go_at_call 17; refine (awake_any _).mono ?_; rintro e w1 ⟨rfl, hb⟩; replace HB := L.bel HB hb; clear hb) | (go_at_call 18; refine (word_any _ _).mono ?_; rintro e w1 ⟨rfl, hb⟩; replace HB := L.bel HB hb; clear hb) | (go_at_call 19; refine (kind_any _ _).mono ?_; rintro e w1 ⟨rfl, hb⟩; replace HB := L.bel HB hb; clear hb))
  all_goals
    go_ret
    exact ⟨L.ret_bool (by simp [*]), HB⟩
set_option maxHeartbeats 1000000 in
theorem law_long (a b : Int) (s : ByteArray) (w : World) (hs : 30 < s.size) :
    Calls Try.prog 4 #[.int .i64 a, .int .i64 b, .string s] w fun e w' => e = .returned (.bool true) ∧ Below w.heap.size w w' := by
  have HB := Below.refl w.heap.size w
  have hs1 : decide ((30 : Int) < (s.size : Int)) = true := decide_eq_true (by omega)
  have hs2 : decide (30 < s.size) = true := decide_eq_true (by omega)
  go_enter Try.func4, Try.ntmps4
  go_wp2_with (first | (go_at_call 17; refine (awake_any _).mono ?_; rintro e w1 ⟨rfl, hb⟩; replace HB := L.bel HB hb; clear hb) | (go_at_call 18; refine (word_any _ _).mono ?_; rintro e w1 ⟨rfl, hb⟩; replace HB := L.bel HB hb; clear hb) | (go_at_call 19; refine (kind_any _ _).mono ?_; rintro e w1 ⟨rfl, hb⟩; replace HB := L.bel HB hb; clear hb))
  go_ret
  exact ⟨rfl, HB⟩
theorem law (a b : Int) (s : ByteArray) (w : World) (_wa : (Lit.int .i64 a).wf = true) (_wb : (Lit.int .i64 b).wf = true) (_ws : s.size ≤ 140737488351232) :
    Calls Try.prog 4 #[.int .i64 a, .int .i64 b, .string s] w fun e w' => e = .returned (.bool true) ∧ Below w.heap.size w w' := by
  by_cases hs : s.size ≤ 30
  · by_cases ha : 1 ≤ a ∧ a ≤ 17
    · obtain ⟨h0, h1⟩ := ha
      have hi := cw_in h0 h1
      have hk := ck_cw h0 h1
      by_cases hab : b = a
      · rcases ck_is s with ⟨hz, hn⟩ | ⟨hz, _, hc⟩
        · by_cases he : (s.toList == []) = true
          · exact law_in_eq_zero_e a b s w hs h0 h1 hi hk hab hz he
          · exact law_in_eq_zero_n a b s w hs h0 h1 hi hk hab hz (Bool.eq_false_iff.2 he) (by rw [cw_zero]; exact nil_ne he)
        · exact law_in_eq_pos a b s w hs h0 h1 hi hk hab hz (by rw [hc]; exact beq_self_eq_true _)
      · have hab' : (a == b) = false := beq_eq_false_iff_ne.2 (Ne.symm hab)
        have hcw : ((cw a).toList == (cw b).toList) = false := by
          rw [beq_eq_false_iff_ne]
          intro h
          have e := L.bytes_inj h
          by_cases hb : 1 ≤ b ∧ b ≤ 17
          · have := ck_cw hb.1 hb.2
            rw [← e, hk] at this
            exact hab this.symm
          · rw [e, cw_out (a := b) (by omega), L.empty_toList] at hi; simp at hi
        rcases ck_is s with ⟨hz, hn⟩ | ⟨hz, _, hc⟩
        · by_cases he : (s.toList == []) = true
          · exact law_in_ne_zero_e a b s w hs h0 h1 hi hk hab' hcw hz he
          · exact law_in_ne_zero_n a b s w hs h0 h1 hi hk hab' hcw hz (Bool.eq_false_iff.2 he) (by rw [cw_zero]; exact nil_ne he)
        · exact law_in_ne_pos a b s w hs h0 h1 hi hk hab' hcw hz (by rw [hc]; exact beq_self_eq_true _)
    · have hi : ((cw a).toList == []) = true := by rw [cw_out (by omega), L.empty_toList]; rfl
      rcases (show a < 1 ∨ 17 < a by omega) with h | h
      · rcases ck_is s with ⟨hz, hn⟩ | ⟨hz, _, hc⟩
        · by_cases he : (s.toList == []) = true
          · exact law_lo_zero_e a b s w hs h hi hz he
          · exact law_lo_zero_n a b s w hs h hi hz (Bool.eq_false_iff.2 he) (by rw [cw_zero]; exact nil_ne he)
        · exact law_lo_pos a b s w hs h hi hz (by rw [hc]; exact beq_self_eq_true _)
      · rcases ck_is s with ⟨hz, hn⟩ | ⟨hz, _, hc⟩
        · by_cases he : (s.toList == []) = true
          · exact law_hi_zero_e a b s w hs h hi hz he
          · exact law_hi_zero_n a b s w hs h hi hz (Bool.eq_false_iff.2 he) (by rw [cw_zero]; exact nil_ne he)
        · exact law_hi_pos a b s w hs h hi hz (by rw [hc]; exact beq_self_eq_true _)
  · exact law_long a b s w (by omega)
end Go.Proofs.Ytbbpjjbgdemmpaa.CallWordsW
