/- the meter: Median of an even number; Quantile. -/
import Derived.Test.YtebfnmhpmgjoiaaMe2
import Derived.Deep.RegionWith
namespace Go.Proofs.Ytebfnmhpmgjoiaa.Fl
open Go.RowKit FT SM Ieee Go.Proofs.YtebfnmhpmgjoiaaW.PrintWords Go.Proofs.YtebfnmhpmgjoiaaW.PrintMore
set_option linter.unusedVariables false
set_option linter.unusedSimpArgs false
set_option maxHeartbeats 4000000 in
theorem median_even (A : Option Addr) (l : List Nat) (c : Nat) (w : World) (hv : Vw w A l) (hl : l.length ≤ 40) (h00 : 0 < l.length) (h0 : l.length % 2 = 0) : Calls Try.prog 36 #[.slice A l.length c] w fun e w' => ∃ M a b m, e = .returned (.tuple #[.float .f64 m, .bool true]) ∧ M.Perm l ∧ Sd less M ∧ M[l.length / 2 - 1]? = some a ∧ M[l.length / 2]? = some b ∧ Is (midv a b) m ∧ Below w.heap.size w w' := by
  obtain ⟨n, hn⟩ : ∃ n, l.length = n := ⟨_, rfl⟩
  have HS : Hid (Calls Try.prog 26 #[.slice A l.length c] w fun e w' => ∃ (ad : Addr) (c' a b : Nat) (M : List Nat), e = .returned (.slice (some ad) n c') ∧ w'.cell? (ad.add (n / 2 - 1)) = some (.float .f64 a) ∧ w'.cell? (ad.add (n / 2)) = some (.float .f64 b) ∧ Hid (M.Perm l ∧ Sd less M ∧ M[n / 2 - 1]? = some a ∧ M[n / 2]? = some b) ∧ Hid (Below w.heap.size w w')) := hid ((sort_calls A l c w hv hl).mono (by
    rintro e w' ⟨A', c', M, h1, h2, h3, h4, h5⟩
    have hle := h3.length_eq
    obtain ⟨a, ha⟩ : ∃ m, M[n / 2 - 1]? = some m := ⟨_, List.getElem?_eq_getElem (by omega)⟩
    obtain ⟨b, hb⟩ : ∃ m, M[n / 2]? = some m := ⟨_, List.getElem?_eq_getElem (by omega)⟩
    cases A' with
    | none => exact absurd (h2.nil rfl) (by rintro rfl; simp at hle; omega)
    | some ad => exact ⟨ad, c', a, b, M, by rw [h1, hle, hn], h2.at' ad rfl _ _ ha, h2.at' ad rfl _ _ hb, hid ⟨h3, h4, ha, hb⟩, hid h5⟩))
  rw [hn] at HS h0 hl h00 ⊢
  have b0 : ((n : Int) == 0) = false := by simp; omega
  obtain ⟨q, hq0⟩ : ∃ q, n / 2 = q := ⟨_, rfl⟩
  obtain ⟨q', hq'⟩ : ∃ q', n / 2 - 1 = q' := ⟨_, rfl⟩
  rw [hq0] at hq'
  rw [hq0, hq'] at HS
  rw [hq0, hq']
  obtain ⟨QI, hQI⟩ : ∃ QI : Int, (n : Int) / 2 = QI := ⟨_, rfl⟩
  obtain ⟨QJ, hQJ⟩ : ∃ QJ : Int, QI - 1 = QJ := ⟨_, rfl⟩
  have t2 : QI.toNat = q := by omega
  have t3 : QJ.toNat = q' := by omega
  have p3 : 0 ≤ QI := by omega
  have p4 : QI < (n : Int) := by omega
  have p5 : 0 ≤ QJ := by omega
  have p6 : QJ < (n : Int) := by omega
  have q1 : wrap64 QI = QI := wrap_small _ (by omega) (by omega)
  have q2 : wrap64 (QI - 1) = QJ := by rw [wrap_small _ (by omega) (by omega)]; exact hQJ
  have q1' : IntKind.i64.wrap QI = QI := (wrap_i64_is _).trans q1
  have q2' : IntKind.i64.wrap (QI - 1) = QJ := (wrap_i64_is _).trans q2
  have q4 : IntKind.i64.wrap QJ = QJ := (wrap_i64_is _).trans (wrap_small _ (by omega) (by omega))
  have q5 : wrap64 QJ = QJ := wrap_small _ (by omega) (by omega)
  obtain ⟨RI, hRI⟩ : ∃ RI : Int, (n : Int) % 2 = RI := ⟨_, rfl⟩
  have q3 : RI = 0 := by omega
  subst q3
  clear hv hl hn h0 h00 hq0 hq' hQJ
  go_enter Try.func36, Try.ntmps36
  go_wp2_with (first | (go_at_call 26; (with_reducible refine HS.out.mono ?_); rintro e1 wS ⟨ad, c', a, b, M, rfl, hc, hd, HM, HB⟩))
  go_upto_region 7 with fail
  go_region_with (first | (go_at_call 19; (with_reducible refine (mid2_calls a b _).mono ?_); rintro e1 wM ⟨m, rfl, h1, h2⟩; have HI := hid h1; have HB2 := hid h2; clear h1 h2))
  all_goals go_wp2
  all_goals exact ⟨rfl, .tuple #[.float .f64 m, .bool true], by simp [results, Try.results36, Act.put], M, a, b, m, rfl, HM.out.1, HM.out.2.1, HM.out.2.2.1, HM.out.2.2.2, HI.out, L.bel (below_drew HB.out) HB2.out⟩
/-- Which part, if any. -/
def mayq (n : Nat) (num den : Int) : Bool := decide (0 < n) && decide (1 ≤ den) && decide (den ≤ 1000) && decide (0 ≤ num) && decide (num ≤ den)
def qix (n : Nat) (num den : Int) : Nat := (num.toNat * (n - 1)) / den.toNat
theorem qix_lt {n : Nat} {num den : Int} (h : mayq n num den = true) : qix n num den < n := by
  unfold mayq at h
  simp only [Bool.and_eq_true, decide_eq_true_eq] at h
  obtain ⟨⟨⟨⟨h1, h2⟩, h3⟩, h4⟩, h5⟩ := h
  unfold qix
  have h6 : num.toNat * (n - 1) ≤ den.toNat * (n - 1) := Nat.mul_le_mul_right _ (by omega)
  have h7 : num.toNat * (n - 1) / den.toNat ≤ n - 1 := by
    refine Nat.le_trans (Nat.div_le_div_right h6) ?_
    rw [Nat.mul_div_cancel_left _ (by omega)]
    exact Nat.le_refl _
  omega
set_option maxHeartbeats 4000000 in
theorem quant_no (A : Option Addr) (n c : Nat) (num den : Int) (w : World) (hm : mayq n num den = false) : Calls Try.prog 31 #[.slice A n c, .int .i64 num, .int .i64 den] w fun e w' => e = .returned (.tuple #[.float .f64 0, .bool false]) ∧ w' = w := by
  by_cases h1 : n = 0
  · subst h1
    clear hm
    go_enter Try.func31, Try.ntmps31
    go_wp2
    exact ⟨rfl, .tuple #[.float .f64 0, .bool false], by simp [results, Try.results31], rfl, rfl⟩
  have b1 : ((n : Int) == 0) = false := by simp; omega
  by_cases h2 : den < 1
  · have b2 : decide (den < 1) = true := decide_eq_true h2
    clear hm h1 h2
    go_enter Try.func31, Try.ntmps31
    go_wp2
    exact ⟨rfl, .tuple #[.float .f64 0, .bool false], by simp [results, Try.results31], rfl, rfl⟩
  have b2 : decide (den < 1) = false := decide_eq_false h2
  by_cases h3 : 1000 < den
  · have b3 : decide (1000 < den) = true := decide_eq_true h3
    clear hm h1 h2 h3
    go_enter Try.func31, Try.ntmps31
    go_wp2
    exact ⟨rfl, .tuple #[.float .f64 0, .bool false], by simp [results, Try.results31], rfl, rfl⟩
  have b3 : decide (1000 < den) = false := decide_eq_false h3
  by_cases h4 : num < 0
  · have b4 : decide (num < 0) = true := decide_eq_true h4
    clear hm h1 h2 h3 h4
    go_enter Try.func31, Try.ntmps31
    go_wp2
    exact ⟨rfl, .tuple #[.float .f64 0, .bool false], by simp [results, Try.results31], rfl, rfl⟩
  have b4 : decide (num < 0) = false := decide_eq_false h4
  by_cases h5 : den < num
  · have b5 : decide (den < num) = true := decide_eq_true h5
    clear hm h1 h2 h3 h4 h5
    go_enter Try.func31, Try.ntmps31
    go_wp2
    exact ⟨rfl, .tuple #[.float .f64 0, .bool false], by simp [results, Try.results31], rfl, rfl⟩
  exfalso
  unfold mayq at hm
  rw [decide_eq_true (by omega), decide_eq_true (by omega), decide_eq_true (by omega), decide_eq_true (by omega), decide_eq_true (by omega)] at hm
  cases hm
set_option maxHeartbeats 4000000 in
theorem quant_some (A : Option Addr) (l : List Nat) (c : Nat) (num den : Int) (w : World) (hv : Vw w A l) (hl : l.length ≤ 40) (hm : mayq l.length num den = true) : Calls Try.prog 31 #[.slice A l.length c, .int .i64 num, .int .i64 den] w fun e w' => ∃ M q, e = .returned (.tuple #[.float .f64 q, .bool true]) ∧ M.Perm l ∧ Sd less M ∧ M[qix l.length num den]? = some q ∧ Below w.heap.size w w' := by
  obtain ⟨n, hn⟩ : ∃ n, l.length = n := ⟨_, rfl⟩
  obtain ⟨k, hk⟩ : ∃ k, qix l.length num den = k := ⟨_, rfl⟩
  have hkl := qix_lt hm
  rw [hk, hn] at hkl
  rw [hk]
  have HS : Hid (Calls Try.prog 26 #[.slice A l.length c] w.drew fun e w' => ∃ (ad : Addr) (c' q : Nat) (M : List Nat), e = .returned (.slice (some ad) n c') ∧ w'.cell? (ad.add k) = some (.float .f64 q) ∧ Hid (M.Perm l ∧ Sd less M ∧ M[k]? = some q) ∧ Hid (Below w.drew.heap.size w.drew w')) := hid ((sort_calls A l c w.drew (hv.below (below_drew (Below.refl _ _))) hl).mono (by
    rintro e w' ⟨A', c', M, h1, h2, h3, h4, h5⟩
    have hle := h3.length_eq
    obtain ⟨q, hq⟩ : ∃ m, M[k]? = some m := ⟨_, List.getElem?_eq_getElem (by omega)⟩
    cases A' with
    | none => exact absurd (h2.nil rfl) (by rintro rfl; simp at hle; omega)
    | some ad => exact ⟨ad, c', q, M, by rw [h1, hle, hn], h2.at' ad rfl _ _ hq, hid ⟨h3, h4, hq⟩, hid h5⟩))
  rw [hn] at HS hk hm hl ⊢
  unfold mayq at hm
  simp only [Bool.and_eq_true, decide_eq_true_eq] at hm
  obtain ⟨⟨⟨⟨h1, h2⟩, h3⟩, h4⟩, h5⟩ := hm
  have b1 : ((n : Int) == 0) = false := by simp; omega
  have b2 : decide (den < 1) = false := decide_eq_false (by omega)
  have b3 : decide (1000 < den) = false := decide_eq_false (by omega)
  have b4 : decide (num < 0) = false := decide_eq_false (by omega)
  have b5 : decide (den < num) = false := decide_eq_false (by omega)
  obtain ⟨NI, hNI⟩ : ∃ NI : Int, (n : Int) - 1 = NI := ⟨_, rfl⟩
  have hN2 : NI = ((n - 1 : Nat) : Int) := by omega
  obtain ⟨PI, hPI⟩ : ∃ PI : Int, num * NI = PI := ⟨_, rfl⟩
  have hP2 : PI = ((num.toNat * (n - 1) : Nat) : Int) := by rw [← hPI, hN2, Int.natCast_mul]; congr 1; omega
  have hP3 : num.toNat * (n - 1) ≤ 1000 * 40 := Nat.mul_le_mul (by omega) (by omega)
  have hqd : PI.tdiv den = (k : Int) := by
    have hden : den = ((den.toNat : Nat) : Int) := by omega
    rw [hP2, hden, ← hk]
    exact Int.ofNat_tdiv _ _
  obtain ⟨QI, hQI⟩ : ∃ QI : Int, (k : Int) = QI := ⟨_, rfl⟩
  rw [hQI] at hqd
  have d1 : (den == 0) = false := by simp; omega
  have d2 : ¬ den = 0 := by omega
  have t2 : QI.toNat = k := by omega
  have p3 : 0 ≤ QI := by omega
  have p4 : QI < (n : Int) := by omega
  have q1 : wrap64 ((n : Int) - 1) = NI := by rw [wrap_small _ (by omega) (by omega)]; exact hNI
  have q1' : IntKind.i64.wrap ((n : Int) - 1) = NI := (wrap_i64_is _).trans q1
  have q2 : wrap64 (num * NI) = PI := by rw [hPI]; exact wrap_small _ (by omega) (by omega)
  have q2' : IntKind.i64.wrap (num * NI) = PI := (wrap_i64_is _).trans q2
  have q3 : wrap64 QI = QI := wrap_small _ (by omega) (by omega)
  have q3' : IntKind.i64.wrap QI = QI := (wrap_i64_is _).trans q3
  clear hv hl hn h1 h2 h3 h4 h5 hNI hN2 hPI hP2 hP3 hQI hk hkl
  go_enter Try.func31, Try.ntmps31
  go_wp2
  go_upto_region 3 with fail
  go_region_with (first | (go_at_call 26; (with_reducible refine ((HS.out)).mono ?_); rintro e1 wS ⟨ad, c', q, M, rfl, hc, HM, HB⟩))
  all_goals go_wp2
  all_goals exact ⟨rfl, .tuple #[.float .f64 q, .bool true], by simp [results, Try.results31, Act.put], M, q, rfl, HM.out.1, HM.out.2.1, HM.out.2.2, L.bel (below_drew (Below.refl _ _)) HB.out⟩
end Go.Proofs.Ytebfnmhpmgjoiaa.Fl
