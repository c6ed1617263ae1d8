/- the meter: Mean, Median, Quantile. -/
import Derived.Test.YtebfnmhpmgjoiaaMe1
namespace Go.Proofs.Ytebfnmhpmgjoiaa.Fl
open Go.RowKit FT SM Ieee Go.Proofs.YtebfnmhpmgjoiaaW.PrintWords Go.Proofs.YtebfnmhpmgjoiaaW.PrintMore
set_option linter.unusedVariables false
set_option linter.unusedSimpArgs false
def meanv (l : List Nat) : Option Nat := (FS l).bind fun v => floatBits .quo .f64 v (floatOfInt .f64 (l.length : Int))
set_option maxHeartbeats 2000000 in
theorem mean_nil (A : Option Addr) (c : Nat) (w : World) : Calls Try.prog 35 #[.slice A 0 c] w fun e w' => e = .returned (.tuple #[.float .f64 0, .bool false]) ∧ w' = w := by
  go_enter Try.func35, Try.ntmps35
  go_wp2
  exact ⟨rfl, .tuple #[.float .f64 0, .bool false], by simp [results, Try.results35], rfl, rfl⟩
set_option maxHeartbeats 2000000 in
theorem mean_calls (A : Option Addr) (l : List Nat) (c : Nat) (w : World) (hv : Vw w A l) (hl : l.length ≤ 1000000) (h0 : 0 < l.length) : Calls Try.prog 35 #[.slice A l.length c] w fun e w' => ∃ m, e = .returned (.tuple #[.float .f64 m, .bool true]) ∧ Is (meanv l) m ∧ Below w.heap.size w w' := by
  have hs := sum_calls A l c w hv hl
  obtain ⟨d, hd⟩ : ∃ d, floatOfInt .f64 (l.length : Int) = d := ⟨_, rfl⟩
  have HS : Hid (Calls Try.prog 37 #[.slice A l.length c] w fun e w' => ∃ (s : Nat) (v : World → Nat) (k : Nat), e = .returned (.float .f64 s) ∧ (∀ W0 : World, (binOp .quo 22 (.float .f64 s) (.float .f64 d)).run Try.prog W0 = .ok (.float .f64 (v W0)) (W0.drewN k)) ∧ Hid (∀ W, Is (meanv l) (v W)) ∧ Hid (Below w.heap.size w w')) := hid (hs.mono (by
    rintro e w' ⟨s, h1, h2, h3⟩
    obtain ⟨v, k, h4, h5⟩ := arith_of .quo (.inl rfl) 22 s d
    refine ⟨s, v, k, h1, h4, hid fun W => ?_, hid h3⟩
    unfold meanv
    rw [hd]
    exact h2.quo (h5 W)))
  obtain ⟨n, hn⟩ : ∃ n, l.length = n := ⟨_, rfl⟩
  rw [hn] at HS hd h0 ⊢
  have b0 : ((n : Int) == 0) = false := by simp; omega
  have b1 : (n == 0) = false := by simp; omega
  have b2 : ¬ n = 0 := by omega
  clear hs hv hl hn h0
  go_enter Try.func35, Try.ntmps35
  go_wp2_with (first | (go_at_call 37; (with_reducible refine HS.out.mono ?_); rintro e1 wS ⟨s, v, k, rfl, hq, HI, HB⟩))
  exact ⟨rfl, .tuple #[.float .f64 (v wS), .bool true], by simp [results, Try.results35], _, rfl, HI.out _, below_drewN HB.out _⟩
set_option maxHeartbeats 2000000 in
theorem median_nil (A : Option Addr) (c : Nat) (w : World) : Calls Try.prog 36 #[.slice A 0 c] w fun e w' => e = .returned (.tuple #[.float .f64 0, .bool false]) ∧ w' = w := by
  go_enter Try.func36, Try.ntmps36
  go_wp2
  exact ⟨rfl, .tuple #[.float .f64 0, .bool false], by simp [results, Try.results36], rfl, rfl⟩
set_option maxHeartbeats 2000000 in
theorem median_odd (A : Option Addr) (l : List Nat) (c : Nat) (w : World) (hv : Vw w A l) (hl : l.length ≤ 40) (h0 : l.length % 2 = 1) : Calls Try.prog 36 #[.slice A l.length c] w fun e w' => ∃ M m, e = .returned (.tuple #[.float .f64 m, .bool true]) ∧ M.Perm l ∧ Sd less M ∧ M[l.length / 2]? = some m ∧ Below w.heap.size w w' := by
  obtain ⟨n, hn⟩ : ∃ n, l.length = n := ⟨_, rfl⟩
  have HS : Hid (Calls Try.prog 26 #[.slice A l.length c] w fun e w' => ∃ (ad : Addr) (c' m : Nat) (M : List Nat), e = .returned (.slice (some ad) n c') ∧ w'.cell? (ad.add (n / 2)) = some (.float .f64 m) ∧ Hid (M.Perm l ∧ Sd less M ∧ M[n / 2]? = some m) ∧ Hid (Below w.heap.size w w')) := hid ((sort_calls A l c w hv hl).mono (by
    rintro e w' ⟨A', c', M, h1, h2, h3, h4, h5⟩
    have hle := h3.length_eq
    obtain ⟨m, hm⟩ : ∃ m, M[n / 2]? = some m := ⟨_, List.getElem?_eq_getElem (by omega)⟩
    cases A' with
    | none => exact absurd (h2.nil rfl) (by rintro rfl; simp at hle; omega)
    | some ad => exact ⟨ad, c', m, M, by rw [h1, hle, hn], h2.at' ad rfl _ _ hm, hid ⟨h3, h4, hm⟩, hid h5⟩))
  rw [hn] at HS h0 hl ⊢
  have b0 : ((n : Int) == 0) = false := by simp; omega
  obtain ⟨QI, hQI⟩ : ∃ QI : Int, (n : Int) / 2 = QI := ⟨_, rfl⟩
  have t2 : QI.toNat = n / 2 := by omega
  have p3 : 0 ≤ QI := by omega
  have p4 : QI < (n : Int) := by omega
  have q1 : wrap64 QI = QI := wrap_small _ (by omega) (by omega)
  obtain ⟨RI, hRI⟩ : ∃ RI : Int, (n : Int) % 2 = RI := ⟨_, rfl⟩
  have q3 : RI = 1 := by omega
  subst q3
  clear hv hl hn h0
  go_enter Try.func36, Try.ntmps36
  go_wp2_with (first | (go_at_call 26; (with_reducible refine HS.out.mono ?_); rintro e1 wS ⟨ad, c', m, M, rfl, hc, HM, HB⟩))
  exact ⟨rfl, .tuple #[.float .f64 m, .bool true], by simp [results, Try.results36], M, m, rfl, HM.out.1, HM.out.2.1, HM.out.2.2, HB.out⟩
end Go.Proofs.Ytebfnmhpmgjoiaa.Fl
