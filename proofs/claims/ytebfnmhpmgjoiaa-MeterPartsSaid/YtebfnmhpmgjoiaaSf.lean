/- sorting floats: symMerge, where the second row is of one. -/
import Derived.Test.YtebfnmhpmgjoiaaSd
namespace Go.Proofs.Ytebfnmhpmgjoiaa.Fl
open Go.RowKit FT SM
set_option linter.unusedVariables false
set_option linter.unusedSimpArgs false
attribute [local go_sem] run_store_float
theorem getD_in (X A Z : List Nat) (r : Nat) (hr : r < A.length) : (X ++ (A ++ Z)).getD (X.length + r) 0 = A.getD r 0 := by
  rw [List.getD_eq_getElem?_getD, List.getElem?_append_right (by omega), show X.length + r - X.length = r by omega, List.getElem?_append_left hr, ← List.getD_eq_getElem?_getD]
theorem getD_mid2 (X A Y : List Nat) (y : Nat) : (X ++ (A ++ (y :: Y))).getD (X.length + A.length) 0 = y := by
  rw [List.getD_eq_getElem?_getD, List.getElem?_append_right (by omega), show X.length + A.length - X.length = A.length by omega, List.getElem?_append_right (Nat.le_refl _), Nat.sub_self]; rfl
set_option maxHeartbeats 4000000 in
set_option maxRecDepth 100000 in
theorem symMerge2 (X A Y : List Nat) (y : Nat) (N c g : Nat) (w : World) (hw : Rw w g (X ++ (A ++ (y :: Y)))) (hA0 : 1 < A.length) (hA : Sd less A) (hN : X.length + 1 + A.length ≤ N) (hNd : N ≤ (X ++ (A ++ (y :: Y))).length) (hs : N ≤ 1000000) (a m b : Int) (ha : a = X.length) (hm : m = (X.length + A.length : Nat)) (hb : b = (X.length + A.length + 1 : Nat)) :
    Calls Try.prog 47 #[.slice (some ⟨g, 0, none⟩) N c, .int .i64 a, .int .i64 m, .int .i64 b, .func (.func 43) #[] #[]] w fun e w' => e = .returned (.tuple #[]) ∧ Srt w w' g X (A ++ [y]) Y := by
  obtain ⟨n, hn⟩ : ∃ n, A.length = n := ⟨_, rfl⟩
  obtain ⟨xl, hxl⟩ : ∃ xl, X.length = xl := ⟨_, rfl⟩
  have HW := hid hw
  have HBS := hid hA
  have HN := hid (show xl + 1 + n ≤ N ∧ N ≤ (X ++ (A ++ (y :: Y))).length ∧ N ≤ 1000000 ∧ A.length = n ∧ X.length = xl ∧ 1 < n ∧ a = xl ∧ m = (xl + n : Nat) ∧ b = (xl + n + 1 : Nat) from ⟨by omega, hNd, hs, hn, hxl, by omega, by omega, by omega, by omega⟩)
  have h0 : (wrap64 (m - a) == 1) = false := by rw [wrap_small _ (by omega) (by omega)]; simp; omega
  have h1 : wrap64 (b - m) = 1 := by rw [wrap_small _ (by omega) (by omega)]; omega
  clear hw hA0 hA hN hNd hs ha hm hb hn hxl
  go_enter Try.func47, Try.ntmps47
  go_wp2
  go_loopg [14, 15] (n + 1) (fun kq v10 v11 w' => ∃ (p q : Nat) (PI QI : Int), v10 = .int .i64 PI ∧ v11 = .int .i64 QI ∧ Hid (PI = ((xl + p : Nat) : Int) ∧ QI = ((xl + q : Nat) : Int) ∧ p ≤ q ∧ q ≤ n ∧ q - p < kq) ∧ Hid ((p = 0 ∨ less y (A.getD (p - 1) 0) = false) ∧ (q = n ∨ less y (A.getD q 0) = true)) ∧ Hid (Rw w' g (X ++ (A ++ (y :: Y))) ∧ Bt g w w'))
  case atStart => exact ⟨0, n, a, m, rfl, rfl, hid ⟨by have := HN.out; omega, by have := HN.out; omega, by omega, by omega, by omega⟩, hid ⟨Or.inl rfl, Or.inl rfl⟩, hid ⟨HW.out, Bt.refl _ _⟩⟩
  case round =>
    obtain ⟨p, q, PI, QI, rfl, rfl, HK, HI, HR⟩ := hrel
    clear h0 h1
    cases gk with
    | zero => exact absurd HK.out.2.2.2.2 (by omega)
    | succ k1 =>
      by_cases cpq : p < q
      · have b1 : decide (PI < QI) = true := decide_eq_true (by have := HK.out; omega)
        obtain ⟨r, hr⟩ : ∃ r, (2 * xl + p + q) / 2 - xl = r := ⟨_, rfl⟩
        obtain ⟨HI2, hHI⟩ : ∃ HI2 : Int, (PI + QI) / 2 = HI2 := ⟨_, rfl⟩
        have HH : Hid (HI2 = ((xl + r : Nat) : Int) ∧ p ≤ r ∧ r < q ∧ q ≤ n) := hid ⟨by have := HK.out; omega, by omega, by omega, HK.out.2.2.2.1⟩
        have hh : wrap64 (IntKind.u64.wrap (wrap64 (PI + QI)) / 2) = HI2 := by rw [← hHI]; exact halfsum PI QI (by have := HK.out; omega) (by have := HK.out; omega) (by have := HK.out; have := HN.out; omega) (by have := HK.out; have := HN.out; omega)
        have HHW := hid hh
        have gr := getD_in X A (y :: Y) r (by have := HH.out; have := HN.out; omega)
        have gx := getD_mid2 X A Y y
        have hxl := HN.out.2.2.2.2.1
        have hnl := HN.out.2.2.2.1
        rw [hxl] at gr gx
        rw [hnl] at gx
        have ch := HR.out.1.cell (xl + r) (by have := HH.out; have := HN.out; omega)
        have ca := HR.out.1.cell (xl + n) (by have := HH.out; have := HN.out; omega)
        rw [gr] at ch
        rw [gx] at ca
        obtain ⟨br, hbr⟩ : ∃ br, A.getD r 0 = br := ⟨_, rfl⟩
        rw [hbr] at ch
        have HBR := hid hbr
        obtain ⟨hn, hhn⟩ : ∃ hn, xl + r = hn := ⟨_, rfl⟩
        obtain ⟨mn, hmn⟩ : ∃ mn, xl + n = mn := ⟨_, rfl⟩
        rw [hhn] at ch
        rw [hmn] at ca
        have t1 : HI2.toNat = hn := by have := HH.out; omega
        have t2 : m.toNat = mn := by have := HN.out; omega
        have p1 : 0 ≤ HI2 := by have := HH.out; omega
        have p2 : 0 ≤ m := by have := HN.out; omega
        have q1 : HI2 < (N : Int) := by have := HH.out; have := HN.out; omega
        have q2 : m < (N : Int) := by have := HN.out; omega
        have HW1 : Hid (wrap64 (HI2 + 1) = ((xl + (r + 1) : Nat) : Int)) := hid (by have := HH.out; have := HN.out; rw [wrap_small _ (by omega) (by omega)]; omega)
        have HX : Hid (∀ nn, Rw (wr.drewN nn) g (X ++ (A ++ (y :: Y))) ∧ Bt g w (wr.drewN nn)) := hid fun nn => ⟨HR.out.1, HR.out.2.drewN nn⟩
        clear hr hHI gr gx hxl hnl hbr hhn hmn
        cases hl : less y br with
        | false =>
          have hneg : decide (cmpv y br < 0) = false := by rw [cmpv_neg, hl]
          have HL := hid hl
          clear hl
          go_upto_region 17 with fail
          go_quiet (first | (go_at_call 43; exact Calls.quiet_of_same (compare_q y br _)))
          go_wp2
          go_roundg k1
          case measure => omega
          case rel => exact ⟨r + 1, q, _, QI, rfl, rfl, hid ⟨HW1.out, HK.out.2.1, by have := HH.out; omega, HK.out.2.2.2.1, by have := HH.out; have := HK.out; omega⟩, hid ⟨Or.inr (by rw [Nat.add_sub_cancel, HBR.out]; exact HL.out), HI.out.2⟩, hid (HX.out _)⟩
        | true =>
          have hneg : decide (cmpv y br < 0) = true := by rw [cmpv_neg, hl]
          have HL := hid hl
          clear hl
          go_upto_region 17 with fail
          go_quiet (first | (go_at_call 43; exact Calls.quiet_of_same (compare_q y br _)))
          go_wp2
          go_roundg k1
          case measure => omega
          case rel => exact ⟨p, r, PI, _, rfl, rfl, hid ⟨HK.out.1, (by first | exact HH.out.1 | exact HHW.out.trans HH.out.1), by have := HH.out; omega, by have := HH.out; omega, by have := HH.out; have := HK.out; omega⟩, hid ⟨HI.out.1, Or.inr (by rw [HBR.out]; exact HL.out)⟩, hid (HX.out _)⟩
      · have b1 : decide (PI < QI) = false := decide_eq_false (by have := HK.out; omega)
        have HPQ : Hid (p ≤ n ∧ q = p ∧ PI = ((xl + p : Nat) : Int)) := hid ⟨by have := HK.out; omega, by have := HK.out; omega, HK.out.1⟩
        have HS0 : Hid (Rw wr g (stx X A Y y n) ∧ Bt g w wr) := hid ⟨by
          have h1 := HR.out.1
          have h2 := HN.out.2.2.2.1
          unfold stx
          rw [List.take_of_length_le (by omega), List.drop_eq_nil_of_le (by omega)]
          exact h1, HR.out.2⟩
        go_wp2
        go_loopg [17] (n + 1) (fun kq v13 w' => ∃ (t : Nat) (TI : Int), v13 = .int .i64 TI ∧ Hid (TI = ((xl + t : Nat) : Int) ∧ t - p < kq ∧ p ≤ t ∧ t ≤ n) ∧ Hid (Rw w' g (stx X A Y y t) ∧ Bt g w w'))
        case atStart => exact ⟨n, m, rfl, hid ⟨by have := HN.out; omega, by omega, by have := HPQ.out; omega, by omega⟩, HS0⟩
        case round =>
          obtain ⟨t0, TI, rfl, HT, HRt⟩ := hrel
          cases gk with
          | zero => exact absurd HT.out.2.1 (by omega)
          | succ k2 =>
            by_cases ct : p < t0
            · have b2 : decide (PI < TI) = true := decide_eq_true (by have := HT.out; have := HPQ.out; omega)
              obtain ⟨t, rfl⟩ : ∃ t, t0 = t + 1 := ⟨t0 - 1, by omega⟩
              have hnl := HN.out
              have hpq := HPQ.out
              have htt := HT.out
              obtain ⟨u, v, hnb⟩ := Nb.mk' (d' := stx X A Y y t) HRt.out.1 (xl + t + 1) (xl + t) (by rw [stx_len]; omega) (by rw [stx_len]; omega) (by have := stx_back X A Y y t (by omega); rw [hnl.2.2.2.2.1] at this; exact this)
              obtain ⟨T1, hT1⟩ : ∃ T1 : Int, TI - 1 = T1 := ⟨_, rfl⟩
              have w1 : IntKind.i64.wrap (TI - 1) = T1 := by rw [i64_small _ (by omega) (by omega)]; exact hT1
              have W2 : Hid (wrap64 (TI - 1) = T1) := hid (by rw [← wrap_i64_is]; exact w1)
              obtain ⟨tm, htm⟩ : ∃ tm, xl + t = tm := ⟨_, rfl⟩
              obtain ⟨tn, htn⟩ : ∃ tn, tm + 1 = tn := ⟨_, rfl⟩
              rw [htm, htn] at hnb
              have t1 : TI.toNat = tn := by omega
              have t2 : T1.toNat = tm := by omega
              have p1 : 0 ≤ TI := by omega
              have p2 : 0 ≤ T1 := by omega
              have q1 : TI < (N : Int) := by omega
              have q2 : T1 < (N : Int) := by omega
              have hab : tn ≠ tm := by omega
              have hab2 : tm ≠ tn := by omega
              obtain ⟨ci, cj, fi, fj, fj2, hdo⟩ := hnb
              have HDO := hid hdo
              have HBT := hid HRt.out.2
              have HT1 : Hid (T1 = ((xl + t : Nat) : Int)) := hid (by omega)
              have w2 := W2.out
              clear hnl hpq htt hT1 htn htm hdo
              go_upto_region 23 with fail
              go_region
              go_wp2
              go_roundg k2
              case measure => omega
              case rel => exact ⟨t, T1, by first | rfl | exact congrArg (Value.int .i64) W2.out, hid ⟨HT1.out, by have := HT.out; omega, by omega, by have := HT.out; omega⟩, hid ⟨HDO.out.row, HBT.out.trans HDO.out.bt⟩⟩
            · have b2 : decide (PI < TI) = false := decide_eq_false (by have := HT.out; have := HPQ.out; omega)
              have HE : Hid (Srt w wr g X (A ++ [y]) Y) := hid (by
                have e : t0 = p := by have := HT.out; omega
                subst e
                have hpq := HPQ.out
                obtain ⟨o1, o2⟩ := one_right y A t0 HBS.out (by have := HN.out; omega) HI.out.1 (by rw [HN.out.2.2.2.1]; have := HI.out.2; rw [hpq.2.1] at this; exact this)
                refine ⟨⟨A.take t0 ++ y :: A.drop t0, ?_, o1, o2⟩, HRt.out.2⟩
                have := HRt.out.1
                unfold stx at this
                simpa [List.append_assoc] using this)
              go_wp2
              exact ⟨rfl, .tuple #[], by simp [results, Try.results47], rfl, HE.out⟩
end Go.Proofs.Ytebfnmhpmgjoiaa.Fl
