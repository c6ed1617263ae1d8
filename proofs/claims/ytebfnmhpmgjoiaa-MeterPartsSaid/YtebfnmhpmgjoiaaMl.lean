/- the meter: MeterParts, an odd number, no part. -/
import Derived.Test.YtebfnmhpmgjoiaaMi
import Derived.BigQuiet
namespace Go.Proofs.Ytebfnmhpmgjoiaa.Fl
open Go.RowKit FT SM Ieee Go.Proofs.YtebfnmhpmgjoiaaW.PrintWords Go.Proofs.YtebfnmhpmgjoiaaW.PrintMore
set_option linter.unusedVariables false
set_option linter.unusedSimpArgs false
set_option maxHeartbeats 16000000 in
set_option maxRecDepth 100000 in
theorem parts_odd_not (A : Option Addr) (l : List Nat) (c : Nat) (num den : Int) (w : World) (hv : Vw w A l) (hl : l.length ≤ 40) (h0 : 0 < l.length) (hp : l.length % 2 = 1) (hm : mayq l.length num den = false) : Calls Try.prog 9 #[.slice A l.length c, .int .i64 num, .int .i64 den] w fun e w' => e = .returned (.bool true) ∧ Below w.heap.size w w' := by
  obtain ⟨n, hn⟩ : ∃ n, l.length = n := ⟨_, rfl⟩
  obtain ⟨i1, hi1⟩ : ∃ i1, n / 2 - 1 = i1 := ⟨_, rfl⟩
  obtain ⟨i2, hi2⟩ : ∃ i2, n / 2 = i2 := ⟨_, rfl⟩
  obtain ⟨i3, hi3⟩ : ∃ i3, 0 = i3 := ⟨_, rfl⟩
  have hi3n : i3 < n := by omega
  obtain ⟨d, hd⟩ : ∃ d, floatOfInt .f64 (n : Int) = d := ⟨_, rfl⟩
  have F1 := hid (fun W => few3_calls A n c true W (decide_eq_true (by omega)))
  have HV := hid hv
  have CS2 : Hid (∀ W, Hid (Vw W A l ∧ Below w.heap.size w W) → Calls Try.prog 22 #[.slice A n c] W fun e w' => ∃ ad cL L x1 x2 x3, e = .returned (.slice (some ad) n cL) ∧ Hid (SP A l w ad L i1 i2 i3 x1 x2 x3 w')) := hid fun W h => by
    have q := sortedR_calls A l c W h.out.1 hl
    rw [hn] at q
    refine q.mono ?_
    rintro e w' ⟨A', cL, L, e1, e2, e3, e4, e5⟩
    have hle := e3.length_eq
    obtain ⟨x1, k1⟩ : ∃ x, L[i1]? = some x := ⟨_, List.getElem?_eq_getElem (by omega)⟩
    obtain ⟨x2, k2⟩ : ∃ x, L[i2]? = some x := ⟨_, List.getElem?_eq_getElem (by omega)⟩
    obtain ⟨x3, k3⟩ : ∃ x, L[i3]? = some x := ⟨_, List.getElem?_eq_getElem (by omega)⟩
    cases A' with
    | none => exact absurd (e2.nil rfl) (by rintro rfl; simp at hle; omega)
    | some ad => exact ⟨ad, cL, L, x1, x2, x3, by rw [e1, hle, hn], hid ⟨h.out.1.below e5, e2, k1, k2, k3, e3, e4, h.out.2.trans (e5.mono h.out.2.size)⟩⟩
  have CMe : Hid (∀ W ad L x1 x2 x3, Hid (SP A l w ad L i1 i2 i3 x1 x2 x3 W) → Calls Try.prog 35 #[.slice A n c] W fun e w' => ∃ m, e = .returned (.tuple #[.float .f64 m, .bool true]) ∧ Hid (Is (meanv l) m) ∧ Hid (SP A l w ad L i1 i2 i3 x1 x2 x3 w')) := hid fun W ad L x1 x2 x3 h => by
    rw [← hn]
    exact (mean_calls A l c W h.out.vl (by omega) h0).mono fun e w' ⟨m, e1, e2, e3⟩ => ⟨m, e1, hid e2, hid (h.out.below e3)⟩
  have CMd : Hid (∀ W ad L x1 x2 x3, Hid (SP A l w ad L i1 i2 i3 x1 x2 x3 W) → Calls Try.prog 36 #[.slice A n c] W fun e w' => ∃ m, e = .returned (.tuple #[.float .f64 m, .bool true]) ∧ Hid (MD l m) ∧ Hid (SP A l w ad L i1 i2 i3 x1 x2 x3 w')) := hid fun W ad L x1 x2 x3 h => by
    rw [← hn]
    exact (median_calls A l c W h.out.vl hl h0).mono fun e w' ⟨m, e1, e2, e3⟩ => ⟨m, e1, hid e2, hid (h.out.below e3)⟩
  have CQu : Hid (∀ W ad L x1 x2 x3, Hid (SP A l w ad L i1 i2 i3 x1 x2 x3 W) → Calls Try.prog 31 #[.slice A n c, .int .i64 num, .int .i64 den] W fun e w' => e = .returned (.tuple #[.float .f64 0, .bool false]) ∧ Hid (SP A l w ad L i1 i2 i3 x1 x2 x3 w')) := hid fun W ad L x1 x2 x3 h => by
    rw [← hn]
    exact (quant3 A l c num den W h.out.vl hl hm).mono fun e w' ⟨e1, e2⟩ => ⟨e1, by rw [e2]; exact h⟩
  have CSu : Hid (∀ W ad L x1 x2 x3, Hid (SP A l w ad L i1 i2 i3 x1 x2 x3 W) → Calls Try.prog 37 #[.slice A n c] W fun e w' => ∃ s, e = .returned (.float .f64 s) ∧ Hid (Is (FS l) s) ∧ Hid (SP A l w ad L i1 i2 i3 x1 x2 x3 w')) := hid fun W ad L x1 x2 x3 h => by
    rw [← hn]
    exact (sum_calls A l c W h.out.vl (by omega)).mono fun e w' ⟨m, e1, e2, e3⟩ => ⟨m, e1, hid e2, hid (h.out.below e3)⟩
  have CRs : Hid (∀ W ad L x1 x2 x3, Hid (SP A l w ad L i1 i2 i3 x1 x2 x3 W) → Calls Try.prog 38 #[.slice A n c] W fun e w' => ∃ s, e = .returned (.float .f64 s) ∧ Hid (Is (FS l) s) ∧ Hid (SP A l w ad L i1 i2 i3 x1 x2 x3 w')) := hid fun W ad L x1 x2 x3 h => by
    rw [← hn]
    exact (rsum_calls A l c W h.out.vl (by omega)).mono fun e w' ⟨m, e1, e2, e3⟩ => ⟨m, e1, hid e2, hid (h.out.below e3)⟩
  have S1 : Hid (∀ s s2 W, Hid (Is (FS l) s) → Hid (Is (FS l) s2) → Calls Try.prog 16 #[.float .f64 s, .float .f64 s2] W fun e w' => e = .returned (.bool true) ∧ W = w') := hid fun s s2 W h k => rsame_calls s s2 true W (h.out.same k.out)
  have S2 : Hid (∀ m s2 W0 k W1 ad L x1 x2 x3, Hid (Is (meanv l) m) → Hid (Is (FS l) s2) → Hid (SP A l w ad L i1 i2 i3 x1 x2 x3 W0) → Calls Try.prog 16 #[.float .f64 m, .float .f64 (av .quo s2 d W1)] (W0.drewN k) fun e w' => e = .returned (.bool true) ∧ Hid (SP A l w ad L i1 i2 i3 x1 x2 x3 w') ∧ w'.cell? (ad.add i1) = some (.float .f64 x1) ∧ w'.cell? (ad.add i2) = some (.float .f64 x2) ∧ w'.cell? (ad.add i3) = some (.float .f64 x3)) := hid fun m s2 W0 k W1 ad L x1 x2 x3 h k h3 => (rsame_calls m _ true _ (h.out.same (by unfold meanv; rw [hn, hd]; exact k.out.quo (av_is .quo s2 d W1)))).mono fun e w' ⟨e1, e2⟩ => ⟨e1, by rw [← e2]; exact hid (h3.out.below (below_drewN (Below.refl _ _) _)), by rw [← e2]; exact h3.out.cells⟩
  have S3 : Hid (∀ md W W' ad L x1 x2 x3, Hid (MD l md) → Hid (SP A l w ad L i1 i2 i3 x1 x2 x3 W') → Calls Try.prog 16 #[.float .f64 md, .float .f64 x2] W fun e w' => e = .returned (.bool true) ∧ W = w') := hid fun md W W' ad L x1 x2 x3 h k => by
    obtain ⟨M, m1, m2, m3⟩ := h.out.1 hp
    rw [hn, hi2] at m3
    exact rsame_calls md x2 true W (same_at m1 k.out.perm m2 k.out.sd m3 k.out.e2)
  have z1 : (FloatKind.f64.format.order 0 0 == some .eq) = true := by decide +kernel
  have z2 : (FloatKind.f64.format.order 0 0 != some .eq) = false := by decide +kernel
  have a0 : decide ((0 : Int) < (n : Int)) = true := decide_eq_true (by omega)
  have a00 : decide (0 < n) = true := decide_eq_true (by omega)
  have hqu := fun W0 : World => fun x y : Nat => quo_run W0 x y
  have had := fun W0 : World => fun x y : Nat => add_run W0 x y
  have hk : decide (1 ≤ den) = false ∨ (decide (1 ≤ den) = true ∧ decide (den ≤ 1000) = false) ∨ (decide (1 ≤ den) = true ∧ decide (den ≤ 1000) = true ∧ decide (0 ≤ num) = false) ∨ (decide (1 ≤ den) = true ∧ decide (den ≤ 1000) = true ∧ decide (0 ≤ num) = true ∧ decide (num ≤ den) = false) := by
    rw [hn] at hm
    unfold mayq at hm
    rw [a00] at hm
    cases x1 : decide (1 ≤ den) <;> cases x2 : decide (den ≤ 1000) <;> cases x3 : decide (0 ≤ num) <;> cases x4 : decide (num ≤ den) <;> simp_all
  obtain ⟨QI, hQI⟩ : ∃ QI : Int, (n : Int) / 2 = QI := ⟨_, rfl⟩
  have t2 : QI.toNat = i2 := by omega
  have p3 : 0 ≤ QI := by omega
  have p4 : QI < (n : Int) := by omega
  have q1 : wrap64 QI = QI := wrap_small _ (by omega) (by omega)
  have q1' : IntKind.i64.wrap QI = QI := (wrap_i64_is _).trans q1
  obtain ⟨RI, hRI⟩ : ∃ RI : Int, (n : Int) % 2 = RI := ⟨_, rfl⟩
  have q3 : RI = 1 := by omega
  subst q3
  have hRT : (n : Int).tmod 2 = 1 := by rw [Int.tmod_eq_emod_of_nonneg (by omega)]; exact hRI
  have hQT : (n : Int).tdiv 2 = QI := by rw [Int.tdiv_eq_ediv_of_nonneg (by omega)]; exact hQI
  rw [hn]
  clear hv hl h0 hn hp hm hi1 hi2 hi3 hi3n
  rcases hk with a1 | ⟨a1, a2⟩ | ⟨a1, a2, a3⟩ | ⟨a1, a2, a3, a4⟩
  all_goals
    go_enter Try.func9, Try.ntmps9
    go_wp2_with (first
      | (go_at_call 27; with_reducible refine (awake3_calls _).mono ?_; rintro e wA ⟨rfl, h1⟩; have H1 := hid (And.intro (HV.out.below h1) h1); clear h1)
      | (go_at_call 28; with_reducible refine (F1.out _).mono ?_; rintro e w2 ⟨rfl, rfl⟩)
      | (go_at_call 22; with_reducible refine (CS2.out _ H1).mono ?_; rintro e w3 ⟨ad, cL, L, x1, x2, x3, rfl, P3⟩)
      | (go_at_call 35; with_reducible refine (CMe.out _ _ _ _ _ _ P3).mono ?_; rintro e w4 ⟨mn, rfl, HMn, P4⟩)
      | (go_at_call 36; with_reducible refine (CMd.out _ _ _ _ _ _ P4).mono ?_; rintro e w5 ⟨md, rfl, HMd, P5⟩)
      | (go_at_call 31; with_reducible refine (CQu.out _ _ _ _ _ _ P5).mono ?_; rintro e w6 ⟨rfl, P6⟩)
      | (go_at_call 37; with_reducible refine (CSu.out _ _ _ _ _ _ P6).mono ?_; rintro e w7 ⟨s, rfl, HS, P7⟩)
      | (go_at_call 38; with_reducible refine (CRs.out _ _ _ _ _ _ P7).mono ?_; rintro e w8 ⟨s2, rfl, HS2, P8⟩)
      | (go_at_call 16; with_reducible refine (S1.out _ _ _ HS HS2).mono ?_; rintro e w2 ⟨rfl, rfl⟩)
      | (go_at_call 38; with_reducible refine (CRs.out _ _ _ _ _ _ P8).mono ?_; rintro e w9 ⟨s3, rfl, HS3, P9⟩)
      | (go_at_call 16; with_reducible refine (S2.out _ _ _ _ _ _ _ _ _ _ HMn HS3 P9).mono ?_; rintro e w10 ⟨rfl, P10, k1, k2, k3⟩))
    have HB := hid P10.out.bel
    go_upto_region 15 with fail
    go_quiet (first | (go_at_call 16; exact Calls.quiet_of_same ((S3.out _ _ _ _ _ _ _ _ HMd P10).mono fun _ _ h => ⟨h.1, h.2.symm⟩)))
    go_wp2
    go_ret
    exact ⟨rfl, by first | exact HB.out | exact below_drewN HB.out _ | exact below_drewN (below_drewN HB.out _) _ | exact below_drew (below_drewN HB.out _)⟩
end Go.Proofs.Ytebfnmhpmgjoiaa.Fl
