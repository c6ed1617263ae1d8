/- the meter: MeterParts, an even number, a part. -/
import Derived.Test.YtebfnmhpmgjoiaaMi
import Derived.BigQuiet
import Derived.Deep.RegionHeld3
namespace Go.Proofs.Ytebfnmhpmgjoiaa.Fl
open Go.RowKit FT SM Ieee Go.Proofs.YtebfnmhpmgjoiaaW.PrintWords Go.Proofs.YtebfnmhpmgjoiaaW.PrintMore
set_option linter.unusedVariables false
set_option linter.unusedSimpArgs false
set_option maxHeartbeats 16000000 in
set_option maxRecDepth 100000 in
theorem parts_even_may (A : Option Addr) (l : List Nat) (c : Nat) (num den : Int) (w : World) (hv : Vw w A l) (hl : l.length ≤ 40) (h0 : 0 < l.length) (hp : l.length % 2 = 0) (hm : mayq l.length num den = true) : Calls Try.prog 9 #[.slice A l.length c, .int .i64 num, .int .i64 den] w fun e w' => e = .returned (.bool true) ∧ Below w.heap.size w w' := by
  obtain ⟨n, hn⟩ : ∃ n, l.length = n := ⟨_, rfl⟩
  obtain ⟨i1, hi1⟩ : ∃ i1, n / 2 - 1 = i1 := ⟨_, rfl⟩
  obtain ⟨i2, hi2⟩ : ∃ i2, n / 2 = i2 := ⟨_, rfl⟩
  obtain ⟨i3, hi3⟩ : ∃ i3, qix n num den = i3 := ⟨_, rfl⟩
  have hi3n : i3 < n := by rw [← hi3, ← hn]; exact qix_lt hm
  obtain ⟨d, hd⟩ : ∃ d, floatOfInt .f64 (n : Int) = d := ⟨_, rfl⟩
  have F1 := hid (fun W => few3_calls A n c true W (decide_eq_true (by omega)))
  have HV := hid hv
  have CS2 : Hid (∀ W, Hid (Vw W A l ∧ Below w.heap.size w W) → Calls Try.prog 22 #[.slice A n c] W fun e w' => ∃ ad cL L x1 x2 x3, e = .returned (.slice (some ad) n cL) ∧ Hid (SP A l w ad L i1 i2 i3 x1 x2 x3 w')) := hid fun W h => by
    have q := sortedR_calls A l c W h.out.1 hl
    rw [hn] at q
    refine q.mono ?_
    rintro e w' ⟨A', cL, L, e1, e2, e3, e4, e5⟩
    have hle := e3.length_eq
    obtain ⟨x1, k1⟩ : ∃ x, L[i1]? = some x := ⟨_, List.getElem?_eq_getElem (by omega)⟩
    obtain ⟨x2, k2⟩ : ∃ x, L[i2]? = some x := ⟨_, List.getElem?_eq_getElem (by omega)⟩
    obtain ⟨x3, k3⟩ : ∃ x, L[i3]? = some x := ⟨_, List.getElem?_eq_getElem (by omega)⟩
    cases A' with
    | none => exact absurd (e2.nil rfl) (by rintro rfl; simp at hle; omega)
    | some ad => exact ⟨ad, cL, L, x1, x2, x3, by rw [e1, hle, hn], hid ⟨h.out.1.below e5, e2, k1, k2, k3, e3, e4, h.out.2.trans (e5.mono h.out.2.size)⟩⟩
  have CMe : Hid (∀ W ad L x1 x2 x3, Hid (SP A l w ad L i1 i2 i3 x1 x2 x3 W) → Calls Try.prog 35 #[.slice A n c] W fun e w' => ∃ m, e = .returned (.tuple #[.float .f64 m, .bool true]) ∧ Hid (Is (meanv l) m) ∧ Hid (SP A l w ad L i1 i2 i3 x1 x2 x3 w')) := hid fun W ad L x1 x2 x3 h => by
    rw [← hn]
    exact (mean_calls A l c W h.out.vl (by omega) h0).mono fun e w' ⟨m, e1, e2, e3⟩ => ⟨m, e1, hid e2, hid (h.out.below e3)⟩
  have CMd : Hid (∀ W ad L x1 x2 x3, Hid (SP A l w ad L i1 i2 i3 x1 x2 x3 W) → Calls Try.prog 36 #[.slice A n c] W fun e w' => ∃ m, e = .returned (.tuple #[.float .f64 m, .bool true]) ∧ Hid (MD l m) ∧ Hid (SP A l w ad L i1 i2 i3 x1 x2 x3 w')) := hid fun W ad L x1 x2 x3 h => by
    rw [← hn]
    exact (median_calls A l c W h.out.vl hl h0).mono fun e w' ⟨m, e1, e2, e3⟩ => ⟨m, e1, hid e2, hid (h.out.below e3)⟩
  have CQu : Hid (∀ W ad L x1 x2 x3, Hid (SP A l w ad L i1 i2 i3 x1 x2 x3 W) → Calls Try.prog 31 #[.slice A n c, .int .i64 num, .int .i64 den] W fun e w' => ∃ m, e = .returned (.tuple #[.float .f64 m, .bool true]) ∧ Hid (QV l num den true m) ∧ Hid (SP A l w ad L i1 i2 i3 x1 x2 x3 w')) := hid fun W ad L x1 x2 x3 h => by
    rw [← hn]
    exact (quant2 A l c num den W h.out.vl hl hm).mono fun e w' ⟨m, e1, e2, e3⟩ => ⟨m, e1, hid e2, hid (h.out.below e3)⟩
  have CSu : Hid (∀ W ad L x1 x2 x3, Hid (SP A l w ad L i1 i2 i3 x1 x2 x3 W) → Calls Try.prog 37 #[.slice A n c] W fun e w' => ∃ s, e = .returned (.float .f64 s) ∧ Hid (Is (FS l) s) ∧ Hid (SP A l w ad L i1 i2 i3 x1 x2 x3 w')) := hid fun W ad L x1 x2 x3 h => by
    rw [← hn]
    exact (sum_calls A l c W h.out.vl (by omega)).mono fun e w' ⟨m, e1, e2, e3⟩ => ⟨m, e1, hid e2, hid (h.out.below e3)⟩
  have CRs : Hid (∀ W ad L x1 x2 x3, Hid (SP A l w ad L i1 i2 i3 x1 x2 x3 W) → Calls Try.prog 38 #[.slice A n c] W fun e w' => ∃ s, e = .returned (.float .f64 s) ∧ Hid (Is (FS l) s) ∧ Hid (SP A l w ad L i1 i2 i3 x1 x2 x3 w')) := hid fun W ad L x1 x2 x3 h => by
    rw [← hn]
    exact (rsum_calls A l c W h.out.vl (by omega)).mono fun e w' ⟨m, e1, e2, e3⟩ => ⟨m, e1, hid e2, hid (h.out.below e3)⟩
  have S1 : Hid (∀ s s2 W, Hid (Is (FS l) s) → Hid (Is (FS l) s2) → Calls Try.prog 16 #[.float .f64 s, .float .f64 s2] W fun e w' => e = .returned (.bool true) ∧ W = w') := hid fun s s2 W h k => rsame_calls s s2 true W (h.out.same k.out)
  have S2 : Hid (∀ m s2 W0 k W1 ad L x1 x2 x3, Hid (Is (meanv l) m) → Hid (Is (FS l) s2) → Hid (SP A l w ad L i1 i2 i3 x1 x2 x3 W0) → Calls Try.prog 16 #[.float .f64 m, .float .f64 (av .quo s2 d W1)] (W0.drewN k) fun e w' => e = .returned (.bool true) ∧ Hid (SP A l w ad L i1 i2 i3 x1 x2 x3 w') ∧ w'.cell? (ad.add i1) = some (.float .f64 x1) ∧ w'.cell? (ad.add i2) = some (.float .f64 x2) ∧ w'.cell? (ad.add i3) = some (.float .f64 x3)) := hid fun m s2 W0 k W1 ad L x1 x2 x3 h k h3 => (rsame_calls m _ true _ (h.out.same (by unfold meanv; rw [hn, hd]; exact k.out.quo (av_is .quo s2 d W1)))).mono fun e w' ⟨e1, e2⟩ => ⟨e1, by rw [← e2]; exact hid (h3.out.below (below_drewN (Below.refl _ _) _)), by rw [← e2]; exact h3.out.cells⟩
  have S3 : Hid (∀ md W W' W1 W2 W3 ad L x1 x2 x3, Hid (MD l md) → Hid (SP A l w ad L i1 i2 i3 x1 x2 x3 W') → Calls Try.prog 16 #[.float .f64 md, .float .f64 (av .add (av .quo x1 4611686018427387904 W1) (av .quo x2 4611686018427387904 W2) W3)] W fun e w' => e = .returned (.bool true) ∧ W = w') := hid fun md W W' W1 W2 W3 ad L x1 x2 x3 h k =>
    rsame_calls md _ true W (same_mid h.out hp k.out.perm k.out.sd (by rw [hn, hi1]; exact k.out.e1) (by rw [hn, hi2]; exact k.out.e2) (av_is .quo x1 4611686018427387904 W1) (av_is .quo x2 4611686018427387904 W2) (av_is .add _ _ W3))
  have S4 : Hid (∀ q W W' ad L x1 x2 x3, Hid (QV l num den true q) → Hid (SP A l w ad L i1 i2 i3 x1 x2 x3 W') → Calls Try.prog 16 #[.float .f64 q, .float .f64 x3] W fun e w' => e = .returned (.bool true) ∧ W = w') := hid fun q W W' ad L x1 x2 x3 h k => by
    obtain ⟨M, m1, m2, m3⟩ := h.out rfl
    rw [hn, hi3] at m3
    exact rsame_calls q x3 true W (same_at m1 k.out.perm m2 k.out.sd m3 k.out.e3)
  have z1 : (FloatKind.f64.format.order 0 0 == some .eq) = true := by decide +kernel
  have z2 : (FloatKind.f64.format.order 0 0 != some .eq) = false := by decide +kernel
  have a0 : decide ((0 : Int) < (n : Int)) = true := decide_eq_true (by omega)
  have a00 : decide (0 < n) = true := decide_eq_true (by omega)
  have hqu := fun W0 : World => fun x y : Nat => quo_run W0 x y
  have had := fun W0 : World => fun x y : Nat => add_run W0 x y
  have hm2 := hm
  rw [hn] at hm2
  unfold mayq at hm2
  simp only [Bool.and_eq_true, decide_eq_true_eq] at hm2
  have a1 : decide (1 ≤ den) = true := decide_eq_true (by omega)
  have a2 : decide (den ≤ 1000) = true := decide_eq_true (by omega)
  have a3 : decide (0 ≤ num) = true := decide_eq_true (by omega)
  have a4 : decide (num ≤ den) = true := decide_eq_true (by omega)
  obtain ⟨NI, hNI⟩ : ∃ NI : Int, (n : Int) - 1 = NI := ⟨_, rfl⟩
  have hN2 : NI = ((n - 1 : Nat) : Int) := by omega
  obtain ⟨PI, hPI⟩ : ∃ PI : Int, num * NI = PI := ⟨_, rfl⟩
  have hP2 : PI = ((num.toNat * (n - 1) : Nat) : Int) := by rw [← hPI, hN2, Int.natCast_mul]; congr 1; omega
  have hP3 : num.toNat * (n - 1) ≤ 1000 * 40 := Nat.mul_le_mul (by omega) (by omega)
  have hqd : PI.tdiv den = (i3 : Int) := by
    have hden : den = ((den.toNat : Nat) : Int) := by omega
    rw [hP2, hden, ← hi3]
    exact Int.ofNat_tdiv _ _
  obtain ⟨QK, hQK⟩ : ∃ QK : Int, (i3 : Int) = QK := ⟨_, rfl⟩
  rw [hQK] at hqd
  have d1 : (den == 0) = false := by simp; omega
  have d2 : ¬ den = 0 := by omega
  have t4 : QK.toNat = i3 := by omega
  have p7 : 0 ≤ QK := by omega
  have p8 : QK < (n : Int) := by omega
  have r1 : wrap64 ((n : Int) - 1) = NI := by rw [wrap_small _ (by omega) (by omega)]; exact hNI
  have r2 : wrap64 (num * NI) = PI := by rw [hPI]; exact wrap_small _ (by omega) (by omega)
  have r3 : wrap64 QK = QK := wrap_small _ (by omega) (by omega)
  clear hm2 hNI hN2 hPI hP2 hP3 hQK
  obtain ⟨QI, hQI⟩ : ∃ QI : Int, (n : Int) / 2 = QI := ⟨_, rfl⟩
  have t2 : QI.toNat = i2 := by omega
  have p3 : 0 ≤ QI := by omega
  have p4 : QI < (n : Int) := by omega
  have q1 : wrap64 QI = QI := wrap_small _ (by omega) (by omega)
  have q1' : IntKind.i64.wrap QI = QI := (wrap_i64_is _).trans q1
  obtain ⟨QJ, hQJ⟩ : ∃ QJ : Int, QI - 1 = QJ := ⟨_, rfl⟩
  have t3 : QJ.toNat = i1 := by omega
  have p5 : 0 ≤ QJ := by omega
  have p6 : QJ < (n : Int) := by omega
  have q2 : wrap64 (QI - 1) = QJ := by rw [wrap_small _ (by omega) (by omega)]; exact hQJ
  have q2' : IntKind.i64.wrap (QI - 1) = QJ := (wrap_i64_is _).trans q2
  clear hQJ
  obtain ⟨RI, hRI⟩ : ∃ RI : Int, (n : Int) % 2 = RI := ⟨_, rfl⟩
  have q3 : RI = 0 := by omega
  subst q3
  have hRT : (n : Int).tmod 2 = 0 := by rw [Int.tmod_eq_emod_of_nonneg (by omega)]; exact hRI
  have hQT : (n : Int).tdiv 2 = QI := by rw [Int.tdiv_eq_ediv_of_nonneg (by omega)]; exact hQI
  rw [hn]
  clear hv hl h0 hn hp hm hi1 hi2 hi3 hi3n
  go_enter Try.func9, Try.ntmps9
  go_wp2_with (first
    | (go_at_call 27; with_reducible refine (awake3_calls _).mono ?_; rintro e wA ⟨rfl, h1⟩; have H1 := hid (And.intro (HV.out.below h1) h1); clear h1)
    | (go_at_call 28; with_reducible refine (F1.out _).mono ?_; rintro e w2 ⟨rfl, rfl⟩)
    | (go_at_call 22; with_reducible refine (CS2.out _ H1).mono ?_; rintro e w3 ⟨ad, cL, L, x1, x2, x3, rfl, P3⟩)
    | (go_at_call 35; with_reducible refine (CMe.out _ _ _ _ _ _ P3).mono ?_; rintro e w4 ⟨mn, rfl, HMn, P4⟩)
    | (go_at_call 36; with_reducible refine (CMd.out _ _ _ _ _ _ P4).mono ?_; rintro e w5 ⟨md, rfl, HMd, P5⟩)
    | (go_at_call 31; with_reducible refine (CQu.out _ _ _ _ _ _ P5).mono ?_; rintro e w6 ⟨q, rfl, HQ, P6⟩)
    | (go_at_call 37; with_reducible refine (CSu.out _ _ _ _ _ _ P6).mono ?_; rintro e w7 ⟨s, rfl, HS, P7⟩)
    | (go_at_call 38; with_reducible refine (CRs.out _ _ _ _ _ _ P7).mono ?_; rintro e w8 ⟨s2, rfl, HS2, P8⟩)
    | (go_at_call 16; with_reducible refine (S1.out _ _ _ HS HS2).mono ?_; rintro e w2 ⟨rfl, rfl⟩)
    | (go_at_call 38; with_reducible refine (CRs.out _ _ _ _ _ _ P8).mono ?_; rintro e w9 ⟨s3, rfl, HS3, P9⟩)
    | (go_at_call 16; with_reducible refine (S2.out _ _ _ _ _ _ _ _ _ _ HMn HS3 P9).mono ?_; rintro e w10 ⟨rfl, P10, k1, k2, k3⟩))
  have HB := hid P10.out.bel
  go_upto_region 15 with fail
  have CA : Hid (w10.cell? (ad.add i1) = some (.float .f64 x1) ∧ w10.cell? (ad.add i2) = some (.float .f64 x2)) := hid ⟨k1, k2⟩
  clear k1 k2
  refine wp_region_noPanic ?_
  refine wp_region_held_drew (S := fun w' => w'.cell? (ad.add i1) = some (.float .f64 x1) ∧ w'.cell? (ad.add i2) = some (.float .f64 x2)) (by kernel_rfl) CA.out (fun hHeld => ?_)
  refine wpAnyH_take (i := 0) (oi := { dst := some 114, op := Op.move (Operand.tmp 10), type := 4, pos := "law.go:38", after := #[], guard := none }) (v := ?_) rfl (by kernel_rfl) (by kernel_rfl) (by kernel_rfl) (fun _ _ _ h => h) (Or.inl ⟨by rfl, ?_⟩) (by assumption) ?_
  rotate_left
  focus (intro w hSw; (try dsimp only at hSw); go_simp; try with_reducible rfl)
  simp only [Act.put, List.setIfInBounds_toArray, List.set_cons_zero, List.set_cons_succ]
  refine wpAnyH_take (i := 1) (oi := { dst := some 115, op := Op.move (Operand.tmp 114), type := 4, pos := "law.go:38", after := #[{ on := 0, ground := Ground.data }], guard := none }) (v := ?_) rfl (by kernel_rfl) (by kernel_rfl) (by kernel_rfl) (fun _ _ _ h => h) (Or.inl ⟨by rfl, ?_⟩) (by assumption) ?_
  rotate_left
  focus (intro w hSw; (try dsimp only at hSw); go_simp; try with_reducible rfl)
  simp only [Act.put, List.setIfInBounds_toArray, List.set_cons_zero, List.set_cons_succ]
  refine wpAnyH_take (i := 2) (oi := { dst := some 116, op := Op.move (Operand.tmp 8), type := 3, pos := "law.go:38", after := #[{ on := 1, ground := Ground.guard }], guard := some (1, true) }) (v := ?_) rfl (by kernel_rfl) (by kernel_rfl) (by kernel_rfl) (fun _ _ _ h => h) (Or.inl ⟨by rfl, ?_⟩) (by assumption) ?_
  rotate_left
  focus (intro w hSw; (try dsimp only at hSw); go_simp; try with_reducible rfl)
  simp only [Act.put, List.setIfInBounds_toArray, List.set_cons_zero, List.set_cons_succ]
  refine wpAnyH_take (i := 3) (oi := { dst := some 117, op := Op.binOp BinOp.rem 3 (Operand.tmp 116) (Operand.const (Value.int IntKind.i64 2)) 3, type := 3, pos := "law.go:38", after := #[{ on := 2, ground := Ground.data }, { on := 1, ground := Ground.guard }], guard := some (1, true) }) (v := ?_) rfl (by kernel_rfl) (by kernel_rfl) (by kernel_rfl) (fun _ _ _ h => h) (Or.inl ⟨by rfl, ?_⟩) (by assumption) ?_
  rotate_left
  focus (intro w hSw; (try dsimp only at hSw); go_simp; try with_reducible rfl)
  simp only [Act.put, List.setIfInBounds_toArray, List.set_cons_zero, List.set_cons_succ]
  refine wpAnyH_take (i := 4) (oi := { dst := some 118, op := Op.binOp BinOp.eql 3 (Operand.tmp 117) (Operand.const (Value.int IntKind.i64 1)) 3, type := 4, pos := "law.go:38", after := #[{ on := 3, ground := Ground.data }, { on := 1, ground := Ground.guard }], guard := some (1, true) }) (v := ?_) rfl (by kernel_rfl) (by kernel_rfl) (by kernel_rfl) (fun _ _ _ h => h) (Or.inl ⟨by rfl, ?_⟩) (by assumption) ?_
  rotate_left
  focus (intro w hSw; (try dsimp only at hSw); go_simp; try with_reducible rfl)
  simp only [Act.put, List.setIfInBounds_toArray, List.set_cons_zero, List.set_cons_succ]
  refine wpAnyH_take (i := 5) (oi := { dst := some 119, op := Op.pick (Operand.tmp 115) (Operand.tmp 118) (Operand.const (Value.bool false)), type := 4, pos := "law.go:38", after := #[{ on := 1, ground := Ground.data }, { on := 4, ground := Ground.data }], guard := none }) (v := ?_) rfl (by kernel_rfl) (by kernel_rfl) (by kernel_rfl) (fun _ _ _ h => h) (Or.inl ⟨by rfl, ?_⟩) (by assumption) ?_
  rotate_left
  focus (intro w hSw; (try dsimp only at hSw); go_simp; try with_reducible rfl)
  simp only [Act.put, List.setIfInBounds_toArray, List.set_cons_zero, List.set_cons_succ]
  refine wpAnyH_take (i := 6) (oi := { dst := some 120, op := Op.move (Operand.tmp 119), type := 4, pos := "law.go:38", after := #[{ on := 5, ground := Ground.data }, { on := 1, ground := Ground.chain }], guard := none }) (v := ?_) rfl (by kernel_rfl) (by kernel_rfl) (by kernel_rfl) (fun _ _ _ h => h) (Or.inl ⟨by rfl, ?_⟩) (by assumption) ?_
  rotate_left
  focus (intro w hSw; (try dsimp only at hSw); go_simp; try with_reducible rfl)
  simp only [Act.put, List.setIfInBounds_toArray, List.set_cons_zero, List.set_cons_succ]
  refine wpAnyH_take (i := 7) (oi := { dst := some 121, op := Op.move (Operand.tmp 11), type := 22, pos := "law.go:38", after := #[{ on := 6, ground := Ground.guard }], guard := some (6, true) }) (v := undef) rfl (by kernel_rfl) (by kernel_rfl) (by kernel_rfl) (fun _ _ _ h => h) (Or.inr ⟨by rfl, rfl⟩) (by assumption) ?_
  simp only [Act.put, List.setIfInBounds_toArray, List.set_cons_zero, List.set_cons_succ]
  refine wpAnyH_take (i := 8) (oi := { dst := some 122, op := Op.move (Operand.tmp 7), type := 31, pos := "law.go:38", after := #[{ on := 6, ground := Ground.guard }], guard := some (6, true) }) (v := undef) rfl (by kernel_rfl) (by kernel_rfl) (by kernel_rfl) (fun _ _ _ h => h) (Or.inr ⟨by rfl, rfl⟩) (by assumption) ?_
  simp only [Act.put, List.setIfInBounds_toArray, List.set_cons_zero, List.set_cons_succ]
  refine wpAnyH_take (i := 9) (oi := { dst := some 123, op := Op.move (Operand.tmp 8), type := 3, pos := "law.go:38", after := #[{ on := 6, ground := Ground.guard }], guard := some (6, true) }) (v := undef) rfl (by kernel_rfl) (by kernel_rfl) (by kernel_rfl) (fun _ _ _ h => h) (Or.inr ⟨by rfl, rfl⟩) (by assumption) ?_
  simp only [Act.put, List.setIfInBounds_toArray, List.set_cons_zero, List.set_cons_succ]
  refine wpAnyH_take (i := 10) (oi := { dst := some 124, op := Op.binOp BinOp.quo 3 (Operand.tmp 123) (Operand.const (Value.int IntKind.i64 2)) 3, type := 3, pos := "law.go:38", after := #[{ on := 9, ground := Ground.data }, { on := 6, ground := Ground.guard }], guard := some (6, true) }) (v := undef) rfl (by kernel_rfl) (by kernel_rfl) (by kernel_rfl) (fun _ _ _ h => h) (Or.inr ⟨by rfl, rfl⟩) (by assumption) ?_
  simp only [Act.put, List.setIfInBounds_toArray, List.set_cons_zero, List.set_cons_succ]
  refine wpAnyH_take (i := 11) (oi := { dst := some 125, op := Op.indexAddr 31 (Operand.tmp 122) (Operand.tmp 124), type := 0, pos := "law.go:38", after := #[{ on := 8, ground := Ground.data }, { on := 10, ground := Ground.data }, { on := 6, ground := Ground.guard }], guard := some (6, true) }) (v := undef) rfl (by kernel_rfl) (by kernel_rfl) (by kernel_rfl) (fun _ _ _ h => h) (Or.inr ⟨by rfl, rfl⟩) (by assumption) ?_
  simp only [Act.put, List.setIfInBounds_toArray, List.set_cons_zero, List.set_cons_succ]
  refine wpAnyH_take (i := 12) (oi := { dst := some 126, op := Op.load 22 (Operand.tmp 125), type := 22, pos := "law.go:38", after := #[{ on := 11, ground := Ground.data }, { on := 6, ground := Ground.guard }], guard := some (6, true) }) (v := undef) rfl (by kernel_rfl) (by kernel_rfl) (by kernel_rfl) (fun _ _ _ h => h) (Or.inr ⟨by rfl, rfl⟩) (by assumption) ?_
  simp only [Act.put, List.setIfInBounds_toArray, List.set_cons_zero, List.set_cons_succ]
  refine wpAnyH_take (i := 13) (oi := { dst := some 127, op := Op.call { callee := Callee.value (Operand.func 16), args := #[Operand.tmp 121, Operand.tmp 126], argTypes := #[22, 22] }, type := 4, pos := "law.go:38", after := #[{ on := 7, ground := Ground.data }, { on := 12, ground := Ground.data }, { on := 6, ground := Ground.chain }, { on := 6, ground := Ground.guard }], guard := some (6, true) }) (v := undef) rfl (by kernel_rfl) (by kernel_rfl) (by kernel_rfl) (fun _ _ _ h => h) (Or.inr ⟨by rfl, rfl⟩) (by assumption) ?_
  simp only [Act.put, List.setIfInBounds_toArray, List.set_cons_zero, List.set_cons_succ]
  refine wpAnyH_take (i := 14) (oi := { dst := some 128, op := Op.unOp UnOp.not 4 (Operand.tmp 127), type := 4, pos := "law.go:38", after := #[{ on := 13, ground := Ground.data }, { on := 6, ground := Ground.guard }], guard := some (6, true) }) (v := undef) rfl (by kernel_rfl) (by kernel_rfl) (by kernel_rfl) (fun _ _ _ h => h) (Or.inr ⟨by rfl, rfl⟩) (by assumption) ?_
  simp only [Act.put, List.setIfInBounds_toArray, List.set_cons_zero, List.set_cons_succ]
  refine wpAnyH_take (i := 15) (oi := { dst := some 129, op := Op.pick (Operand.tmp 120) (Operand.tmp 128) (Operand.const (Value.bool false)), type := 4, pos := "law.go:38", after := #[{ on := 6, ground := Ground.data }, { on := 14, ground := Ground.data }], guard := none }) (v := ?_) rfl (by kernel_rfl) (by kernel_rfl) (by kernel_rfl) (fun _ _ _ h => h) (Or.inl ⟨by rfl, ?_⟩) (by assumption) ?_
  rotate_left
  focus (intro w hSw; (try dsimp only at hSw); go_simp; try with_reducible rfl)
  simp only [Act.put, List.setIfInBounds_toArray, List.set_cons_zero, List.set_cons_succ]
  refine wpAnyH_take (i := 16) (oi := { dst := some 130, op := Op.move (Operand.tmp 129), type := 4, pos := "law.go:38", after := #[{ on := 15, ground := Ground.data }, { on := 13, ground := Ground.chain }], guard := none }) (v := ?_) rfl (by kernel_rfl) (by kernel_rfl) (by kernel_rfl) (fun _ _ _ h => h) (Or.inl ⟨by rfl, ?_⟩) (by assumption) ?_
  rotate_left
  focus (intro w hSw; (try dsimp only at hSw); go_simp; try with_reducible rfl)
  simp only [Act.put, List.setIfInBounds_toArray, List.set_cons_zero, List.set_cons_succ]
  refine wpAnyH_take (i := 17) (oi := { dst := some 131, op := Op.move (Operand.tmp 10), type := 4, pos := "law.go:38", after := #[{ on := 16, ground := Ground.guard }], guard := some (16, false) }) (v := ?_) rfl (by kernel_rfl) (by kernel_rfl) (by kernel_rfl) (fun _ _ _ h => h) (Or.inl ⟨by rfl, ?_⟩) (by assumption) ?_
  rotate_left
  focus (intro w hSw; (try dsimp only at hSw); go_simp; try with_reducible rfl)
  simp only [Act.put, List.setIfInBounds_toArray, List.set_cons_zero, List.set_cons_succ]
  refine wpAnyH_take (i := 18) (oi := { dst := some 132, op := Op.move (Operand.tmp 131), type := 4, pos := "law.go:38", after := #[{ on := 17, ground := Ground.data }, { on := 16, ground := Ground.chain }, { on := 16, ground := Ground.guard }], guard := some (16, false) }) (v := ?_) rfl (by kernel_rfl) (by kernel_rfl) (by kernel_rfl) (fun _ _ _ h => h) (Or.inl ⟨by rfl, ?_⟩) (by assumption) ?_
  rotate_left
  focus (intro w hSw; (try dsimp only at hSw); go_simp; try with_reducible rfl)
  simp only [Act.put, List.setIfInBounds_toArray, List.set_cons_zero, List.set_cons_succ]
  refine wpAnyH_take (i := 19) (oi := { dst := some 133, op := Op.move (Operand.tmp 8), type := 3, pos := "law.go:38", after := #[{ on := 18, ground := Ground.guard }], guard := some (18, true) }) (v := ?_) rfl (by kernel_rfl) (by kernel_rfl) (by kernel_rfl) (fun _ _ _ h => h) (Or.inl ⟨by rfl, ?_⟩) (by assumption) ?_
  rotate_left
  focus (intro w hSw; (try dsimp only at hSw); go_simp; try with_reducible rfl)
  simp only [Act.put, List.setIfInBounds_toArray, List.set_cons_zero, List.set_cons_succ]
  refine wpAnyH_take (i := 20) (oi := { dst := some 134, op := Op.binOp BinOp.rem 3 (Operand.tmp 133) (Operand.const (Value.int IntKind.i64 2)) 3, type := 3, pos := "law.go:38", after := #[{ on := 19, ground := Ground.data }, { on := 18, ground := Ground.guard }], guard := some (18, true) }) (v := ?_) rfl (by kernel_rfl) (by kernel_rfl) (by kernel_rfl) (fun _ _ _ h => h) (Or.inl ⟨by rfl, ?_⟩) (by assumption) ?_
  rotate_left
  focus (intro w hSw; (try dsimp only at hSw); go_simp; try with_reducible rfl)
  simp only [Act.put, List.setIfInBounds_toArray, List.set_cons_zero, List.set_cons_succ]
  refine wpAnyH_take (i := 21) (oi := { dst := some 135, op := Op.binOp BinOp.eql 3 (Operand.tmp 134) (Operand.const (Value.int IntKind.i64 0)) 3, type := 4, pos := "law.go:38", after := #[{ on := 20, ground := Ground.data }, { on := 18, ground := Ground.guard }], guard := some (18, true) }) (v := ?_) rfl (by kernel_rfl) (by kernel_rfl) (by kernel_rfl) (fun _ _ _ h => h) (Or.inl ⟨by rfl, ?_⟩) (by assumption) ?_
  rotate_left
  focus (intro w hSw; (try dsimp only at hSw); go_simp; try with_reducible rfl)
  simp only [Act.put, List.setIfInBounds_toArray, List.set_cons_zero, List.set_cons_succ]
  refine wpAnyH_take (i := 22) (oi := { dst := some 136, op := Op.pick (Operand.tmp 132) (Operand.tmp 135) (Operand.const (Value.bool false)), type := 4, pos := "law.go:38", after := #[{ on := 18, ground := Ground.data }, { on := 21, ground := Ground.data }, { on := 16, ground := Ground.guard }], guard := some (16, false) }) (v := ?_) rfl (by kernel_rfl) (by kernel_rfl) (by kernel_rfl) (fun _ _ _ h => h) (Or.inl ⟨by rfl, ?_⟩) (by assumption) ?_
  rotate_left
  focus (intro w hSw; (try dsimp only at hSw); go_simp; try with_reducible rfl)
  simp only [Act.put, List.setIfInBounds_toArray, List.set_cons_zero, List.set_cons_succ]
  refine wpAnyH_take (i := 23) (oi := { dst := some 137, op := Op.move (Operand.tmp 136), type := 4, pos := "law.go:38", after := #[{ on := 22, ground := Ground.data }, { on := 18, ground := Ground.chain }, { on := 16, ground := Ground.guard }], guard := some (16, false) }) (v := ?_) rfl (by kernel_rfl) (by kernel_rfl) (by kernel_rfl) (fun _ _ _ h => h) (Or.inl ⟨by rfl, ?_⟩) (by assumption) ?_
  rotate_left
  focus (intro w hSw; (try dsimp only at hSw); go_simp; try with_reducible rfl)
  simp only [Act.put, List.setIfInBounds_toArray, List.set_cons_zero, List.set_cons_succ]
  refine wpAnyH_take (i := 24) (oi := { dst := some 138, op := Op.move (Operand.tmp 11), type := 22, pos := "law.go:38", after := #[{ on := 23, ground := Ground.guard }], guard := some (23, true) }) (v := ?_) rfl (by kernel_rfl) (by kernel_rfl) (by kernel_rfl) (fun _ _ _ h => h) (Or.inl ⟨by rfl, ?_⟩) (by assumption) ?_
  rotate_left
  focus (intro w hSw; (try dsimp only at hSw); go_simp; try with_reducible rfl)
  simp only [Act.put, List.setIfInBounds_toArray, List.set_cons_zero, List.set_cons_succ]
  refine wpAnyH_take (i := 25) (oi := { dst := some 139, op := Op.move (Operand.tmp 7), type := 31, pos := "law.go:38", after := #[{ on := 23, ground := Ground.guard }], guard := some (23, true) }) (v := ?_) rfl (by kernel_rfl) (by kernel_rfl) (by kernel_rfl) (fun _ _ _ h => h) (Or.inl ⟨by rfl, ?_⟩) (by assumption) ?_
  rotate_left
  focus (intro w hSw; (try dsimp only at hSw); go_simp; try with_reducible rfl)
  simp only [Act.put, List.setIfInBounds_toArray, List.set_cons_zero, List.set_cons_succ]
  refine wpAnyH_take (i := 26) (oi := { dst := some 140, op := Op.move (Operand.tmp 8), type := 3, pos := "law.go:38", after := #[{ on := 23, ground := Ground.guard }], guard := some (23, true) }) (v := ?_) rfl (by kernel_rfl) (by kernel_rfl) (by kernel_rfl) (fun _ _ _ h => h) (Or.inl ⟨by rfl, ?_⟩) (by assumption) ?_
  rotate_left
  focus (intro w hSw; (try dsimp only at hSw); go_simp; try with_reducible rfl)
  simp only [Act.put, List.setIfInBounds_toArray, List.set_cons_zero, List.set_cons_succ]
  refine wpAnyH_take (i := 27) (oi := { dst := some 141, op := Op.binOp BinOp.quo 3 (Operand.tmp 140) (Operand.const (Value.int IntKind.i64 2)) 3, type := 3, pos := "law.go:38", after := #[{ on := 26, ground := Ground.data }, { on := 23, ground := Ground.guard }], guard := some (23, true) }) (v := ?_) rfl (by kernel_rfl) (by kernel_rfl) (by kernel_rfl) (fun _ _ _ h => h) (Or.inl ⟨by rfl, ?_⟩) (by assumption) ?_
  rotate_left
  focus (intro w hSw; (try dsimp only at hSw); go_simp; try with_reducible rfl)
  simp only [Act.put, List.setIfInBounds_toArray, List.set_cons_zero, List.set_cons_succ]
  refine wpAnyH_take (i := 28) (oi := { dst := some 142, op := Op.binOp BinOp.sub 3 (Operand.tmp 141) (Operand.const (Value.int IntKind.i64 1)) 3, type := 3, pos := "law.go:38", after := #[{ on := 27, ground := Ground.data }, { on := 23, ground := Ground.guard }], guard := some (23, true) }) (v := ?_) rfl (by kernel_rfl) (by kernel_rfl) (by kernel_rfl) (fun _ _ _ h => h) (Or.inl ⟨by rfl, ?_⟩) (by assumption) ?_
  rotate_left
  focus (intro w hSw; (try dsimp only at hSw); go_simp; try with_reducible rfl)
  simp only [Act.put, List.setIfInBounds_toArray, List.set_cons_zero, List.set_cons_succ]
  refine wpAnyH_take (i := 29) (oi := { dst := some 143, op := Op.indexAddr 31 (Operand.tmp 139) (Operand.tmp 142), type := 0, pos := "law.go:38", after := #[{ on := 25, ground := Ground.data }, { on := 28, ground := Ground.data }, { on := 23, ground := Ground.guard }], guard := some (23, true) }) (v := ?_) rfl (by kernel_rfl) (by kernel_rfl) (by kernel_rfl) (fun _ _ _ h => h) (Or.inl ⟨by rfl, ?_⟩) (by assumption) ?_
  rotate_left
  focus (intro w hSw; (try dsimp only at hSw); go_simp; try with_reducible rfl)
  simp only [Act.put, List.setIfInBounds_toArray, List.set_cons_zero, List.set_cons_succ]
  refine wpAnyH_take (i := 30) (oi := { dst := some 144, op := Op.load 22 (Operand.tmp 143), type := 22, pos := "law.go:38", after := #[{ on := 29, ground := Ground.data }, { on := 23, ground := Ground.guard }], guard := some (23, true) }) (v := ?_) rfl (by kernel_rfl) (by kernel_rfl) (by kernel_rfl) (fun _ _ _ h => h) (Or.inl ⟨by rfl, ?_⟩) (by assumption) ?_
  rotate_left
  focus (intro w hSw; (try dsimp only at hSw); go_simp; try with_reducible rfl)
  simp only [Act.put, List.setIfInBounds_toArray, List.set_cons_zero, List.set_cons_succ]
  refine wpAnyH_take (i := 32) (oi := { dst := some 146, op := Op.move (Operand.tmp 7), type := 31, pos := "law.go:38", after := #[{ on := 23, ground := Ground.guard }], guard := some (23, true) }) (v := ?_) rfl (by kernel_rfl) (by kernel_rfl) (by kernel_rfl) (fun _ _ _ h => h) (Or.inl ⟨by rfl, ?_⟩) (by assumption) ?_
  rotate_left
  focus (intro w hSw; (try dsimp only at hSw); go_simp; try with_reducible rfl)
  simp only [Act.put, List.setIfInBounds_toArray, List.set_cons_zero, List.set_cons_succ]
  refine wpAnyH_take (i := 33) (oi := { dst := some 147, op := Op.move (Operand.tmp 8), type := 3, pos := "law.go:38", after := #[{ on := 23, ground := Ground.guard }], guard := some (23, true) }) (v := ?_) rfl (by kernel_rfl) (by kernel_rfl) (by kernel_rfl) (fun _ _ _ h => h) (Or.inl ⟨by rfl, ?_⟩) (by assumption) ?_
  rotate_left
  focus (intro w hSw; (try dsimp only at hSw); go_simp; try with_reducible rfl)
  simp only [Act.put, List.setIfInBounds_toArray, List.set_cons_zero, List.set_cons_succ]
  refine wpAnyH_take (i := 34) (oi := { dst := some 148, op := Op.binOp BinOp.quo 3 (Operand.tmp 147) (Operand.const (Value.int IntKind.i64 2)) 3, type := 3, pos := "law.go:38", after := #[{ on := 33, ground := Ground.data }, { on := 23, ground := Ground.guard }], guard := some (23, true) }) (v := ?_) rfl (by kernel_rfl) (by kernel_rfl) (by kernel_rfl) (fun _ _ _ h => h) (Or.inl ⟨by rfl, ?_⟩) (by assumption) ?_
  rotate_left
  focus (intro w hSw; (try dsimp only at hSw); go_simp; try with_reducible rfl)
  simp only [Act.put, List.setIfInBounds_toArray, List.set_cons_zero, List.set_cons_succ]
  refine wpAnyH_take (i := 35) (oi := { dst := some 149, op := Op.indexAddr 31 (Operand.tmp 146) (Operand.tmp 148), type := 0, pos := "law.go:38", after := #[{ on := 32, ground := Ground.data }, { on := 34, ground := Ground.data }, { on := 23, ground := Ground.guard }], guard := some (23, true) }) (v := ?_) rfl (by kernel_rfl) (by kernel_rfl) (by kernel_rfl) (fun _ _ _ h => h) (Or.inl ⟨by rfl, ?_⟩) (by assumption) ?_
  rotate_left
  focus (intro w hSw; (try dsimp only at hSw); go_simp; try with_reducible rfl)
  simp only [Act.put, List.setIfInBounds_toArray, List.set_cons_zero, List.set_cons_succ]
  refine wpAnyH_take (i := 36) (oi := { dst := some 150, op := Op.load 22 (Operand.tmp 149), type := 22, pos := "law.go:38", after := #[{ on := 35, ground := Ground.data }, { on := 23, ground := Ground.guard }], guard := some (23, true) }) (v := ?_) rfl (by kernel_rfl) (by kernel_rfl) (by kernel_rfl) (fun _ _ _ h => h) (Or.inl ⟨by rfl, ?_⟩) (by assumption) ?_
  rotate_left
  focus (intro w hSw; (try dsimp only at hSw); go_simp; try with_reducible rfl)
  simp only [Act.put, List.setIfInBounds_toArray, List.set_cons_zero, List.set_cons_succ]
  refine wpAnyH_ready (rs := [31, 37]) (by kernel_rfl) (by simp) ?_
  refine AllReadyH.cons (o := { dst := some 145, op := Op.binOp BinOp.quo 22 (Operand.tmp 144) (Operand.const (Value.float FloatKind.f64 4611686018427387904)) 22, type := 22, pos := "law.go:38", after := #[{ on := 30, ground := Ground.data }, { on := 23, ground := Ground.guard }], guard := some (23, true) }) rfl (fun K hK => ?_) ?_
  · go_simp
    refine hK.out _ _ CA.out (fun hHeld => ?_)
    clear hK K
    try simp only [Act.put, List.setIfInBounds_toArray, List.set_cons_zero, List.set_cons_succ]
    refine wpAnyH_ready (rs := [37]) (by kernel_rfl) (by simp) ?_
    refine AllReadyH.cons (o := { dst := some 151, op := Op.binOp BinOp.quo 22 (Operand.tmp 150) (Operand.const (Value.float FloatKind.f64 4611686018427387904)) 22, type := 22, pos := "law.go:38", after := #[{ on := 36, ground := Ground.data }, { on := 23, ground := Ground.guard }], guard := some (23, true) }) rfl (fun K hK => ?_) AllReadyH.nil
    go_simp
    refine hK.out _ _ CA.out (fun hHeld => ?_)
    clear hK K
    try simp only [Act.put, List.setIfInBounds_toArray, List.set_cons_zero, List.set_cons_succ]
    refine wpAnyH_ready (rs := [38]) (by kernel_rfl) (by simp) ?_
    refine AllReadyH.cons (o := { dst := some 152, op := Op.binOp BinOp.add 22 (Operand.tmp 145) (Operand.tmp 151) 22, type := 22, pos := "law.go:38", after := #[{ on := 31, ground := Ground.data }, { on := 37, ground := Ground.data }, { on := 23, ground := Ground.guard }], guard := some (23, true) }) rfl (fun K hK => ?_) AllReadyH.nil
    go_simp
    refine hK.out _ _ CA.out (fun hHeld => ?_)
    clear hK K
    try simp only [Act.put, List.setIfInBounds_toArray, List.set_cons_zero, List.set_cons_succ]
    refine wpAnyH_ready (rs := [39]) (by kernel_rfl) (by simp) ?_
    refine AllReadyH.cons (o := { dst := some 153, op := Op.call { callee := Callee.value (Operand.func 16), args := #[Operand.tmp 138, Operand.tmp 152], argTypes := #[22, 22] }, type := 4, pos := "law.go:38", after := #[{ on := 24, ground := Ground.data }, { on := 38, ground := Ground.data }, { on := 23, ground := Ground.chain }, { on := 23, ground := Ground.guard }], guard := some (23, true) }) rfl (fun K hK => ?_) AllReadyH.nil
    go_simp
    (go_at_call 16; (with_reducible refine (S3.out _ _ _ _ _ _ _ _ _ _ _ HMd P10).mono ?_); rintro e w2 ⟨rfl, rfl⟩)
    try go_wp2_with fail
    refine hK.out _ _ CA.out (fun hHeld => ?_)
    clear hK K
    try simp only [Act.put, List.setIfInBounds_toArray, List.set_cons_zero, List.set_cons_succ]
    refine wpAnyH_take (i := 40) (oi := { dst := some 154, op := Op.unOp UnOp.not 4 (Operand.tmp 153), type := 4, pos := "law.go:38", after := #[{ on := 39, ground := Ground.data }, { on := 23, ground := Ground.guard }], guard := some (23, true) }) (v := ?_) rfl (by kernel_rfl) (by kernel_rfl) (by kernel_rfl) (fun _ _ _ h => h) (Or.inl ⟨by rfl, ?_⟩) (by assumption) ?_
    rotate_left
    focus (intro w hSw; (try dsimp only at hSw); go_simp; try with_reducible rfl)
    simp only [Act.put, List.setIfInBounds_toArray, List.set_cons_zero, List.set_cons_succ]
    refine wpAnyH_take (i := 41) (oi := { dst := some 155, op := Op.pick (Operand.tmp 137) (Operand.tmp 154) (Operand.const (Value.bool false)), type := 4, pos := "law.go:38", after := #[{ on := 23, ground := Ground.data }, { on := 40, ground := Ground.data }, { on := 16, ground := Ground.guard }], guard := some (16, false) }) (v := ?_) rfl (by kernel_rfl) (by kernel_rfl) (by kernel_rfl) (fun _ _ _ h => h) (Or.inl ⟨by rfl, ?_⟩) (by assumption) ?_
    rotate_left
    focus (intro w hSw; (try dsimp only at hSw); go_simp; try with_reducible rfl)
    simp only [Act.put, List.setIfInBounds_toArray, List.set_cons_zero, List.set_cons_succ]
    refine wpAnyH_take (i := 42) (oi := { dst := some 156, op := Op.pick (Operand.tmp 130) (Operand.const (Value.bool true)) (Operand.tmp 155), type := 4, pos := "law.go:38", after := #[{ on := 16, ground := Ground.data }, { on := 41, ground := Ground.data }], guard := none }) (v := ?_) rfl (by kernel_rfl) (by kernel_rfl) (by kernel_rfl) (fun _ _ _ h => h) (Or.inl ⟨by rfl, ?_⟩) (by assumption) ?_
    rotate_left
    focus (intro w hSw; (try dsimp only at hSw); go_simp; try with_reducible rfl)
    simp only [Act.put, List.setIfInBounds_toArray, List.set_cons_zero, List.set_cons_succ]
    refine wpAnyH_done (by kernel_rfl) ?_ _
    refine NoPanic.normal ?_
    go_wp2_with (first | (go_at_call 16; with_reducible refine (S4.out _ _ _ _ _ _ _ _ HQ P10).mono ?_; rintro e w2 ⟨rfl, rfl⟩))
    go_ret
    exact ⟨rfl, by repeat (first | exact HB.out | refine below_drewN ?_ _ | refine below_drew ?_)⟩
  refine AllReadyH.cons (o := { dst := some 151, op := Op.binOp BinOp.quo 22 (Operand.tmp 150) (Operand.const (Value.float FloatKind.f64 4611686018427387904)) 22, type := 22, pos := "law.go:38", after := #[{ on := 36, ground := Ground.data }, { on := 23, ground := Ground.guard }], guard := some (23, true) }) rfl (fun K hK => ?_) AllReadyH.nil
  go_simp
  refine hK.out _ _ CA.out (fun hHeld => ?_)
  clear hK K
  try simp only [Act.put, List.setIfInBounds_toArray, List.set_cons_zero, List.set_cons_succ]
  refine wpAnyH_ready (rs := [31]) (by kernel_rfl) (by simp) ?_
  refine AllReadyH.cons (o := { dst := some 145, op := Op.binOp BinOp.quo 22 (Operand.tmp 144) (Operand.const (Value.float FloatKind.f64 4611686018427387904)) 22, type := 22, pos := "law.go:38", after := #[{ on := 30, ground := Ground.data }, { on := 23, ground := Ground.guard }], guard := some (23, true) }) rfl (fun K hK => ?_) AllReadyH.nil
  go_simp
  refine hK.out _ _ CA.out (fun hHeld => ?_)
  clear hK K
  try simp only [Act.put, List.setIfInBounds_toArray, List.set_cons_zero, List.set_cons_succ]
  refine wpAnyH_ready (rs := [38]) (by kernel_rfl) (by simp) ?_
  refine AllReadyH.cons (o := { dst := some 152, op := Op.binOp BinOp.add 22 (Operand.tmp 145) (Operand.tmp 151) 22, type := 22, pos := "law.go:38", after := #[{ on := 31, ground := Ground.data }, { on := 37, ground := Ground.data }, { on := 23, ground := Ground.guard }], guard := some (23, true) }) rfl (fun K hK => ?_) AllReadyH.nil
  go_simp
  refine hK.out _ _ CA.out (fun hHeld => ?_)
  clear hK K
  try simp only [Act.put, List.setIfInBounds_toArray, List.set_cons_zero, List.set_cons_succ]
  refine wpAnyH_ready (rs := [39]) (by kernel_rfl) (by simp) ?_
  refine AllReadyH.cons (o := { dst := some 153, op := Op.call { callee := Callee.value (Operand.func 16), args := #[Operand.tmp 138, Operand.tmp 152], argTypes := #[22, 22] }, type := 4, pos := "law.go:38", after := #[{ on := 24, ground := Ground.data }, { on := 38, ground := Ground.data }, { on := 23, ground := Ground.chain }, { on := 23, ground := Ground.guard }], guard := some (23, true) }) rfl (fun K hK => ?_) AllReadyH.nil
  go_simp
  (go_at_call 16; (with_reducible refine (S3.out _ _ _ _ _ _ _ _ _ _ _ HMd P10).mono ?_); rintro e w2 ⟨rfl, rfl⟩)
  try go_wp2_with fail
  refine hK.out _ _ CA.out (fun hHeld => ?_)
  clear hK K
  try simp only [Act.put, List.setIfInBounds_toArray, List.set_cons_zero, List.set_cons_succ]
  refine wpAnyH_take (i := 40) (oi := { dst := some 154, op := Op.unOp UnOp.not 4 (Operand.tmp 153), type := 4, pos := "law.go:38", after := #[{ on := 39, ground := Ground.data }, { on := 23, ground := Ground.guard }], guard := some (23, true) }) (v := ?_) rfl (by kernel_rfl) (by kernel_rfl) (by kernel_rfl) (fun _ _ _ h => h) (Or.inl ⟨by rfl, ?_⟩) (by assumption) ?_
  rotate_left
  focus (intro w hSw; (try dsimp only at hSw); go_simp; try with_reducible rfl)
  simp only [Act.put, List.setIfInBounds_toArray, List.set_cons_zero, List.set_cons_succ]
  refine wpAnyH_take (i := 41) (oi := { dst := some 155, op := Op.pick (Operand.tmp 137) (Operand.tmp 154) (Operand.const (Value.bool false)), type := 4, pos := "law.go:38", after := #[{ on := 23, ground := Ground.data }, { on := 40, ground := Ground.data }, { on := 16, ground := Ground.guard }], guard := some (16, false) }) (v := ?_) rfl (by kernel_rfl) (by kernel_rfl) (by kernel_rfl) (fun _ _ _ h => h) (Or.inl ⟨by rfl, ?_⟩) (by assumption) ?_
  rotate_left
  focus (intro w hSw; (try dsimp only at hSw); go_simp; try with_reducible rfl)
  simp only [Act.put, List.setIfInBounds_toArray, List.set_cons_zero, List.set_cons_succ]
  refine wpAnyH_take (i := 42) (oi := { dst := some 156, op := Op.pick (Operand.tmp 130) (Operand.const (Value.bool true)) (Operand.tmp 155), type := 4, pos := "law.go:38", after := #[{ on := 16, ground := Ground.data }, { on := 41, ground := Ground.data }], guard := none }) (v := ?_) rfl (by kernel_rfl) (by kernel_rfl) (by kernel_rfl) (fun _ _ _ h => h) (Or.inl ⟨by rfl, ?_⟩) (by assumption) ?_
  rotate_left
  focus (intro w hSw; (try dsimp only at hSw); go_simp; try with_reducible rfl)
  simp only [Act.put, List.setIfInBounds_toArray, List.set_cons_zero, List.set_cons_succ]
  refine wpAnyH_done (by kernel_rfl) ?_ _
  refine NoPanic.normal ?_
  go_wp2_with (first | (go_at_call 16; with_reducible refine (S4.out _ _ _ _ _ _ _ _ HQ P10).mono ?_; rintro e w2 ⟨rfl, rfl⟩))
  go_ret
  exact ⟨rfl, by repeat (first | exact HB.out | refine below_drewN ?_ _ | refine below_drew ?_)⟩
end Go.Proofs.Ytebfnmhpmgjoiaa.Fl
