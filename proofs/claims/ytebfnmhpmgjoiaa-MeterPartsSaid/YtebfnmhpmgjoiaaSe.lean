/- sorting floats: symMerge, where the first row is of one. -/
import Derived.Test.YtebfnmhpmgjoiaaSd
namespace Go.Proofs.Ytebfnmhpmgjoiaa.Fl
open Go.RowKit FT SM
set_option linter.unusedVariables false
set_option linter.unusedSimpArgs false
attribute [local go_sem] run_store_float
set_option maxHeartbeats 4000000 in
set_option maxRecDepth 100000 in
theorem symMerge1 (X B Y : List Nat) (x : Nat) (N c g : Nat) (w : World) (hw : Rw w g (X ++ (x :: (B ++ Y)))) (hB0 : 0 < B.length) (hB : Sd less B) (hN : X.length + 1 + B.length ≤ N) (hNd : N ≤ (X ++ (x :: (B ++ Y))).length) (hs : N ≤ 1000000) (a m b : Int) (ha : a = X.length) (hm : m = (X.length + 1 : Nat)) (hb : b = (X.length + 1 + B.length : Nat)) :
    Calls Try.prog 47 #[.slice (some ⟨g, 0, none⟩) N c, .int .i64 a, .int .i64 m, .int .i64 b, .func (.func 43) #[] #[]] w fun e w' => e = .returned (.tuple #[]) ∧ Srt w w' g X ([x] ++ B) Y := by
  obtain ⟨n, hn⟩ : ∃ n, B.length = n := ⟨_, rfl⟩
  obtain ⟨xl, hxl⟩ : ∃ xl, X.length = xl := ⟨_, rfl⟩
  have HW := hid hw
  have HBS := hid hB
  have HN := hid (show xl + 1 + n ≤ N ∧ N ≤ (X ++ (x :: (B ++ Y))).length ∧ N ≤ 1000000 ∧ B.length = n ∧ X.length = xl ∧ 0 < n ∧ a = xl ∧ m = (xl + 1 : Nat) ∧ b = (xl + 1 + n : Nat) from ⟨by omega, hNd, hs, hn, hxl, by omega, by omega, by omega, by omega⟩)
  have h1 : wrap64 (m - a) = 1 := by rw [wrap_small _ (by omega) (by omega)]; omega
  clear hw hB0 hB hN hNd hs ha hm hb hn hxl
  go_enter Try.func47, Try.ntmps47
  go_wp2
  go_loopg [10, 11] (n + 1) (fun kq v10 v11 w' => ∃ (p q : Nat) (PI QI : Int), v10 = .int .i64 PI ∧ v11 = .int .i64 QI ∧ Hid (PI = ((xl + 1 + p : Nat) : Int) ∧ QI = ((xl + 1 + q : Nat) : Int) ∧ p ≤ q ∧ q ≤ n ∧ q - p < kq) ∧ Hid ((p = 0 ∨ less (B.getD (p - 1) 0) x = true) ∧ (q = n ∨ less (B.getD q 0) x = false)) ∧ Hid (Rw w' g (X ++ (x :: (B ++ Y))) ∧ Bt g w w'))
  case atStart => exact ⟨0, n, m, b, rfl, rfl, hid ⟨by have := HN.out; omega, by have := HN.out; omega, by omega, by omega, by omega⟩, hid ⟨Or.inl rfl, Or.inl rfl⟩, hid ⟨HW.out, Bt.refl _ _⟩⟩
  case round =>
    obtain ⟨p, q, PI, QI, rfl, rfl, HK, HI, HR⟩ := hrel
    clear h1
    cases gk with
    | zero => exact absurd HK.out.2.2.2.2 (by omega)
    | succ k1 =>
      by_cases cpq : p < q
      · have b1 : decide (PI < QI) = true := decide_eq_true (by have := HK.out; omega)
        obtain ⟨r, hr⟩ : ∃ r, (p + q) / 2 = r := ⟨_, rfl⟩
        obtain ⟨HI2, hHI⟩ : ∃ HI2 : Int, (PI + QI) / 2 = HI2 := ⟨_, rfl⟩
        have HH : Hid (HI2 = ((xl + 1 + r : Nat) : Int) ∧ p ≤ r ∧ r < q ∧ q ≤ n) := hid ⟨by have := HK.out; omega, by omega, by omega, HK.out.2.2.2.1⟩
        have hh : wrap64 (IntKind.u64.wrap (wrap64 (PI + QI)) / 2) = HI2 := by rw [← hHI]; exact halfsum PI QI (by have := HK.out; omega) (by have := HK.out; omega) (by have := HK.out; have := HN.out; omega) (by have := HK.out; have := HN.out; omega)
        have HHW := hid hh
        have gr := getD_mid X B Y x r (by have := HH.out; have := HN.out; omega)
        have gx := getD_at X (B ++ Y) x
        have hxl := HN.out.2.2.2.2.1
        rw [hxl] at gr gx
        have ch := HR.out.1.cell (xl + 1 + r) (by have := HH.out; have := HN.out; omega)
        have ca := HR.out.1.cell xl (by have := HH.out; have := HN.out; omega)
        rw [gr] at ch
        rw [gx] at ca
        obtain ⟨br, hbr⟩ : ∃ br, B.getD r 0 = br := ⟨_, rfl⟩
        rw [hbr] at ch
        have HBR := hid hbr
        obtain ⟨hn, hhn⟩ : ∃ hn, xl + 1 + r = hn := ⟨_, rfl⟩
        rw [hhn] at ch
        have t1 : HI2.toNat = hn := by have := HH.out; omega
        have t2 : a.toNat = xl := by have := HN.out; omega
        have p1 : 0 ≤ HI2 := by have := HH.out; omega
        have p2 : 0 ≤ a := by have := HN.out; omega
        have q1 : HI2 < (N : Int) := by have := HH.out; have := HN.out; omega
        have q2 : a < (N : Int) := by have := HN.out; omega
        have HW1 : Hid (wrap64 (HI2 + 1) = ((xl + 1 + (r + 1) : Nat) : Int)) := hid (by have := HH.out; have := HN.out; rw [wrap_small _ (by omega) (by omega)]; omega)
        have HX : Hid (∀ nn, Rw (wr.drewN nn) g (X ++ (x :: (B ++ Y))) ∧ Bt g w (wr.drewN nn)) := hid fun nn => ⟨HR.out.1, HR.out.2.drewN nn⟩
        clear hr hHI gr gx hxl hbr hhn
        cases hl : less br x with
        | true =>
          have hneg : decide (cmpv br x < 0) = true := by rw [cmpv_neg, hl]
          have HL := hid hl
          clear hl
          go_upto_region 5 with fail
          go_quiet (first | (go_at_call 43; exact Calls.quiet_of_same (compare_q br x _)))
          go_wp2
          go_roundg k1
          case measure => omega
          case rel => exact ⟨r + 1, q, _, QI, rfl, rfl, hid ⟨HW1.out, HK.out.2.1, by have := HH.out; omega, HK.out.2.2.2.1, by have := HH.out; have := HK.out; omega⟩, hid ⟨Or.inr (by rw [Nat.add_sub_cancel, HBR.out]; exact HL.out), HI.out.2⟩, hid (HX.out _)⟩
        | false =>
          have hneg : decide (cmpv br x < 0) = false := by rw [cmpv_neg, hl]
          have HL := hid hl
          clear hl
          go_upto_region 5 with fail
          go_quiet (first | (go_at_call 43; exact Calls.quiet_of_same (compare_q br x _)))
          go_wp2
          go_roundg k1
          case measure => omega
          case rel => exact ⟨p, r, PI, _, rfl, rfl, hid ⟨HK.out.1, (by first | exact HH.out.1 | exact HHW.out.trans HH.out.1), by have := HH.out; omega, by have := HH.out; omega, by have := HH.out; have := HK.out; omega⟩, hid ⟨HI.out.1, Or.inr (by rw [HBR.out]; exact HL.out)⟩, hid (HX.out _)⟩
      · have b1 : decide (PI < QI) = false := decide_eq_false (by have := HK.out; omega)
        obtain ⟨P1, hP1⟩ : ∃ P1 : Int, ((xl + p : Nat) : Int) = P1 := ⟨_, rfl⟩
        have hpi : wrap64 (PI - 1) = P1 := by have := HK.out; have := HN.out; rw [wrap_small _ (by omega) (by omega)]; omega
        have HP1 := hid hP1
        have HPQ : Hid (p ≤ n ∧ q = p) := hid ⟨by have := HK.out; omega, by have := HK.out; omega⟩
        have HS0 : Hid (Rw wr g (stx X B Y x 0) ∧ Bt g w wr) := hid ⟨by have := HR.out.1; unfold stx; simpa using this, HR.out.2⟩
        clear hP1
        go_wp2
        go_loopg [13] (p + 1) (fun kq v13 w' => ∃ (t : Nat) (TI : Int), v13 = .int .i64 TI ∧ Hid (TI = ((xl + t : Nat) : Int) ∧ t + kq = p + 1 ∧ t ≤ p) ∧ Hid (Rw w' g (stx X B Y x t) ∧ Bt g w w'))
        case atStart => exact ⟨0, a, rfl, hid ⟨by have := HN.out; omega, by omega, by omega⟩, HS0⟩
        case round =>
          obtain ⟨t, TI, rfl, HT, HRt⟩ := hrel
          cases gk with
          | zero => exact absurd HT.out.2.1 (by have := HT.out; omega)
          | succ k2 =>
            by_cases ct : t < p
            · have b2 : decide (TI < P1) = true := decide_eq_true (by have := HT.out; have := HP1.out; omega)
              have hnl := HN.out
              have hpq := HPQ.out
              obtain ⟨u, v, hnb⟩ := Nb.mk' (d' := stx X B Y x (t + 1)) HRt.out.1 (xl + t) (xl + t + 1) (by rw [stx_len]; omega) (by rw [stx_len]; omega) (by have := stx_step X B Y x t (by omega); rw [hnl.2.2.2.2.1] at this; exact this)
              obtain ⟨T1, hT1⟩ : ∃ T1 : Int, TI + 1 = T1 := ⟨_, rfl⟩
              have w1 : IntKind.i64.wrap (TI + 1) = T1 := by have := HT.out; rw [i64_small _ (by omega) (by omega)]; exact hT1
              have W2 : Hid (wrap64 (TI + 1) = T1) := hid (by rw [← wrap_i64_is]; exact w1)
              obtain ⟨tn, htn⟩ : ∃ tn, xl + t = tn := ⟨_, rfl⟩
              obtain ⟨tm, htm⟩ : ∃ tm, tn + 1 = tm := ⟨_, rfl⟩
              rw [htn, htm] at hnb
              have t1 : TI.toNat = tn := by have := HT.out; omega
              have t2 : T1.toNat = tm := by have := HT.out; omega
              have p1 : 0 ≤ TI := by have := HT.out; omega
              have p2 : 0 ≤ T1 := by omega
              have q1 : TI < (N : Int) := by have := HT.out; omega
              have q2 : T1 < (N : Int) := by have := HT.out; omega
              have hab : tn ≠ tm := by omega
              have hab2 : tm ≠ tn := by omega
              obtain ⟨ci, cj, fi, fj, fj2, hdo⟩ := hnb
              have HDO := hid hdo
              have HBT := hid HRt.out.2
              have HT1 : Hid (T1 = ((xl + (t + 1) : Nat) : Int)) := hid (by have := HT.out; omega)
              have w2 := W2.out
              clear hnl hpq hT1 htn htm hdo
              go_upto_region 11 with fail
              go_region
              go_wp2
              go_roundg k2
              case measure => omega
              case rel => exact ⟨t + 1, T1, by first | rfl | exact congrArg (Value.int .i64) W2.out, hid ⟨HT1.out, by have := HT.out; omega, by omega⟩, hid ⟨HDO.out.row, HBT.out.trans HDO.out.bt⟩⟩
            · have b2 : decide (TI < P1) = false := decide_eq_false (by have := HT.out; have := HP1.out; omega)
              have HE : Hid (Srt w wr g X ([x] ++ B) Y) := hid (by
                have e : t = p := by have := HT.out; omega
                subst e
                have hpq := HPQ.out
                obtain ⟨o1, o2⟩ := one_left x B t HBS.out (by have := HN.out; omega) HI.out.1 (by rw [HN.out.2.2.2.1]; have := HI.out.2; rw [hpq.2] at this; exact this)
                refine ⟨⟨B.take t ++ x :: B.drop t, ?_, o1, o2⟩, HRt.out.2⟩
                have := HRt.out.1
                unfold stx at this
                simpa [List.append_assoc] using this)
              go_wp2
              exact ⟨rfl, .tuple #[], by simp [results, Try.results47], rfl, HE.out⟩
end Go.Proofs.Ytebfnmhpmgjoiaa.Fl
