/- sorting floats: symMerge, where both rows are of more than one (the first row is the longer). -/
import Derived.Test.YtebfnmhpmgjoiaaSg
namespace Go.Proofs.Ytebfnmhpmgjoiaa.Fl
open Go.RowKit FT SM
set_option linter.unusedVariables false
set_option linter.unusedSimpArgs false
attribute [local go_sem] run_store_float
set_option maxHeartbeats 8000000 in
set_option maxRecDepth 100000 in
theorem symMerge3a (k : Nat) (IH : SMC k) (X A B Y : List Nat) (N c g : Nat) (w : World) (hw : Rw w g (X ++ (A ++ (B ++ Y)))) (hk : A.length + B.length ≤ k + 1) (hA1 : 1 < A.length) (hB1 : 1 < B.length) (hcase : (A.length + B.length) / 2 < A.length) (hA : Sd less A) (hB : Sd less B) (hN : X.length + A.length + B.length ≤ N) (hNd : N ≤ (X ++ (A ++ (B ++ Y))).length) (hs : N ≤ 1000000) (a m b : Int) (ha : a = X.length) (hm : m = (X.length + A.length : Nat)) (hb : b = (X.length + A.length + B.length : Nat)) :
    Calls Try.prog 47 #[.slice (some ⟨g, 0, none⟩) N c, .int .i64 a, .int .i64 m, .int .i64 b, .func (.func 43) #[] #[]] w fun e w' => e = .returned (.tuple #[]) ∧ Srt w w' g X (A ++ B) Y := by
  obtain ⟨xl, hxl⟩ : ∃ xl, X.length = xl := ⟨_, rfl⟩
  obtain ⟨al, hal⟩ : ∃ al, A.length = al := ⟨_, rfl⟩
  obtain ⟨be, hbe⟩ : ∃ be, B.length = be := ⟨_, rfl⟩
  obtain ⟨h0, hh0⟩ : ∃ h0, (al + be) / 2 = h0 := ⟨_, rfl⟩
  rw [hal, hbe] at hcase
  rw [hh0] at hcase
  obtain ⟨MID, hMID⟩ : ∃ MID : Int, ((xl + h0 : Nat) : Int) = MID := ⟨_, rfl⟩
  obtain ⟨NI, hNI⟩ : ∃ NI : Int, ((2 * xl + h0 + al : Nat) : Int) = NI := ⟨_, rfl⟩
  obtain ⟨PI, hPI⟩ : ∃ PI : Int, ((2 * xl + h0 + al - 1 : Nat) : Int) = PI := ⟨_, rfl⟩
  obtain ⟨s0, hs0⟩ : ∃ s0, h0 - be = s0 := ⟨_, rfl⟩
  obtain ⟨r0, hr0⟩ : ∃ r0, h0 = r0 := ⟨_, rfl⟩
  obtain ⟨S0I, hS0I⟩ : ∃ S0I : Int, ((xl + s0 : Nat) : Int) = S0I := ⟨_, rfl⟩
  have HA := hid hA
  have HB := hid hB
  have HW := hid hw
  have HIH := hid IH
  have HL := hid (show X.length = xl ∧ A.length = al ∧ B.length = be ∧ al + be ≤ k + 1 ∧ N ≤ (X ++ (A ++ (B ++ Y))).length ∧ N ≤ 1000000 ∧ xl + al + be ≤ N from ⟨hxl, hal, hbe, by omega, hNd, hs, by omega⟩)
  have HN := hid (show a = xl ∧ m = (xl + al : Nat) ∧ b = (xl + al + be : Nat) ∧ (xl + h0 : Nat) = MID ∧ (2 * xl + h0 + al : Nat) = NI ∧ (2 * xl + h0 + al - 1 : Nat) = PI ∧ 2 ≤ al ∧ 2 ≤ be ∧ (al + be) / 2 = h0 ∧ xl + al + be ≤ 1000000 from ⟨by omega, by omega, by omega, hMID, hNI, hPI, by omega, by omega, hh0, by omega⟩)
  have HS := hid (show s0 ≤ r0 ∧ (s0 = 0 ∨ s0 + be = h0) ∧ (r0 = al ∨ r0 = h0) ∧ r0 ≤ al ∧ r0 ≤ h0 ∧ h0 ≤ s0 + be ∧ (xl + s0 : Nat) = S0I from ⟨by omega, by omega, by omega, by omega, by omega, by omega, hS0I⟩)
  have HC := hid (show r0 = h0 ∧ s0 = h0 - be from ⟨hr0.symm, hs0.symm⟩)
  have W1 : Hid ((wrap64 (m - a) == 1) = false) := hid (by rw [wrap_small _ (by omega) (by omega)]; simp; omega)
  have W2 : Hid ((wrap64 (b - m) == 1) = false) := hid (by rw [wrap_small _ (by omega) (by omega)]; simp; omega)
  have W3 : Hid (wrap64 (IntKind.u64.wrap (wrap64 (a + b)) / 2) = MID) := hid (by rw [halfsum a b (by omega) (by omega) (by omega) (by omega)]; omega)
  have W4 : Hid (wrap64 (MID + m) = NI) := hid (by rw [wrap_small _ (by omega) (by omega)]; omega)
  have W5 : Hid (wrap64 (NI - 1) = PI) := hid (by rw [wrap_small _ (by omega) (by omega)]; omega)
  have W6 : Hid (wrap64 (NI - b) = S0I ∨ True) := hid (Or.inr trivial)
  have W7 : Hid (wrap64 (NI - b) = S0I) := hid (by rw [wrap_small _ (by omega) (by omega)]; omega)
  have b0 : decide (MID < m) = true := decide_eq_true (by omega)
  clear hw hk hA1 hB1 hcase hA hB hN hNd hs ha hm hb hxl hal hbe hh0 hMID hNI hPI hs0 hr0 hS0I IH
  have w1 := W1.out
  have w2 := W2.out
  have w3 := W3.out
  have w4 := W4.out
  have w5 := W5.out
  have w7 := W7.out
  go_enter Try.func47, Try.ntmps47
  go_wp2
  go_loopg [20, 21] (al + 1) (fun kq v20 v21 w' => ∃ (s r : Nat) (SI RI : Int), v20 = .int .i64 SI ∧ v21 = .int .i64 RI ∧ Hid (SI = ((xl + s : Nat) : Int) ∧ RI = ((xl + r : Nat) : Int) ∧ s0 ≤ s ∧ s ≤ r ∧ r ≤ r0 ∧ r - s < kq) ∧ Hid ((s = s0 ∨ less (B.getD (h0 - s) 0) (A.getD (s - 1) 0) = false) ∧ (r = r0 ∨ less (B.getD (h0 - 1 - r) 0) (A.getD r 0) = true)) ∧ Hid (Rw w' g (X ++ (A ++ (B ++ Y))) ∧ Bt g w w'))
  case atStart => exact ⟨s0, r0, S0I, MID, (by first | rfl | exact congrArg (Value.int .i64) W7.out), (by first | rfl | exact congrArg (Value.int .i64) W3.out), hid ⟨by have := HN.out; have := HS.out; have := HC.out; omega, by have := HN.out; have := HS.out; have := HC.out; omega, by omega, HS.out.1, by omega, by have := HS.out; omega⟩, hid ⟨Or.inl rfl, Or.inl rfl⟩, hid ⟨HW.out, Bt.refl _ _⟩⟩
  case round =>
    clear w1 w2 w4 w5
    try clear w3
    try clear w7
    obtain ⟨s, r, SI, RI, rfl, rfl, HK, HI, HR⟩ := hrel
    cases gk with
    | zero => exact absurd HK.out.2.2.2.2.2 (by omega)
    | succ k1 =>
      by_cases cpq : s < r
      · have b1 : decide (SI < RI) = true := decide_eq_true (by have := HK.out; omega)
        obtain ⟨q, hq⟩ : ∃ q, (2 * xl + s + r) / 2 - xl = q := ⟨_, rfl⟩
        obtain ⟨CI, hCI⟩ : ∃ CI : Int, (SI + RI) / 2 = CI := ⟨_, rfl⟩
        have HH : Hid (CI = ((xl + q : Nat) : Int) ∧ s ≤ q ∧ q < r ∧ r ≤ r0 ∧ s0 ≤ q) := hid ⟨by have := HK.out; omega, by omega, by omega, HK.out.2.2.2.2.1, by have := HK.out; omega⟩
        have HHW : Hid (wrap64 (IntKind.u64.wrap (wrap64 (SI + RI)) / 2) = CI) := hid (by rw [← hCI]; exact halfsum SI RI (by have := HK.out; omega) (by have := HK.out; omega) (by have := HK.out; have := HN.out; have := HS.out; omega) (by have := HK.out; have := HN.out; have := HS.out; omega))
        have hlq : q < A.length := by have := HH.out; have := HS.out; have := HL.out; omega
        have hlb : h0 - 1 - q < B.length := by have := HH.out; have := HS.out; have := HL.out; have := HN.out; omega
        have ga := getD_in X A (B ++ Y) q hlq
        have gb := getD_in (X ++ A) B Y (h0 - 1 - q) hlb
        rw [List.append_assoc, List.length_append, HL.out.1, HL.out.2.1] at gb
        rw [HL.out.1] at ga
        have ca := HR.out.1.cell (xl + q) (by have := HH.out; have := HL.out; have := HS.out; omega)
        have cb := HR.out.1.cell (xl + al + (h0 - 1 - q)) (by have := HH.out; have := HL.out; have := HS.out; have := HN.out; omega)
        rw [ga] at ca
        rw [gb] at cb
        obtain ⟨va, hva⟩ : ∃ va, A.getD q 0 = va := ⟨_, rfl⟩
        obtain ⟨vb, hvb⟩ : ∃ vb, B.getD (h0 - 1 - q) 0 = vb := ⟨_, rfl⟩
        rw [hva] at ca
        rw [hvb] at cb
        have HVA := hid hva
        have HVB := hid hvb
        obtain ⟨qn, hqn⟩ : ∃ qn, xl + q = qn := ⟨_, rfl⟩
        obtain ⟨dn, hdn⟩ : ∃ dn, xl + al + (h0 - 1 - q) = dn := ⟨_, rfl⟩
        rw [hqn] at ca
        rw [hdn] at cb
        obtain ⟨DI, hDI⟩ : ∃ DI : Int, PI - CI = DI := ⟨_, rfl⟩
        have wd : IntKind.i64.wrap (PI - CI) = DI := by have := HH.out; have := HN.out; have := HS.out; rw [i64_small _ (by omega) (by omega)]; exact hDI
        have wd2 : wrap64 (PI - CI) = DI := by rw [← wrap_i64_is]; exact wd
        have t1 : CI.toNat = qn := by have := HH.out; omega
        have t2 : DI.toNat = dn := by have := HH.out; have := HN.out; have := HS.out; omega
        have p1 : 0 ≤ CI := by have := HH.out; omega
        have p2 : 0 ≤ DI := by have := HH.out; have := HN.out; have := HS.out; omega
        have q1 : CI < (N : Int) := by have := HH.out; have := HN.out; have := HS.out; have := HL.out; omega
        have q2 : DI < (N : Int) := by have := HH.out; have := HN.out; have := HS.out; have := HL.out; omega
        have HW1 : Hid (wrap64 (CI + 1) = ((xl + (q + 1) : Nat) : Int)) := hid (by have := HH.out; have := HN.out; have := HS.out; rw [wrap_small _ (by omega) (by omega)]; omega)
        have HX : Hid (∀ nn, Rw (wr.drewN nn) g (X ++ (A ++ (B ++ Y))) ∧ Bt g w (wr.drewN nn)) := hid fun nn => ⟨HR.out.1, HR.out.2.drewN nn⟩
        have HQ : Hid (h0 - (q + 1) = h0 - 1 - q) := hid (by omega)
        have hh := HHW.out
        clear hq hCI ga gb hva hvb hqn hdn hDI hlq hlb
        cases hl : less vb va with
        | false =>
          have hneg : decide (cmpv vb va < 0) = false := by rw [cmpv_neg, hl]
          have HLL := hid hl
          clear hl
          have w3 := W3.out
          have w4 := W4.out
          have w5 := W5.out
          have w7 := W7.out
          go_upto_region 35 with fail
          go_quiet (first | (go_at_call 43; exact Calls.quiet_of_same (compare_q vb va _)))
          go_wp2
          go_roundg k1
          case measure => omega
          case rel => exact ⟨q + 1, r, _, RI, rfl, rfl, hid ⟨HW1.out, HK.out.2.1, by have := HH.out; omega, by have := HH.out; omega, HH.out.2.2.2.1, by have := HH.out; have := HK.out; omega⟩, hid ⟨Or.inr (by rw [Nat.add_sub_cancel, HQ.out, HVA.out, HVB.out]; exact HLL.out), HI.out.2⟩, hid (HX.out _)⟩
        | true =>
          have hneg : decide (cmpv vb va < 0) = true := by rw [cmpv_neg, hl]
          have HLL := hid hl
          clear hl
          have w3 := W3.out
          have w4 := W4.out
          have w5 := W5.out
          have w7 := W7.out
          go_upto_region 35 with fail
          go_quiet (first | (go_at_call 43; exact Calls.quiet_of_same (compare_q vb va _)))
          go_wp2
          go_roundg k1
          case measure => omega
          case rel => exact ⟨s, q, SI, _, rfl, rfl, hid ⟨HK.out.1, (by first | exact HH.out.1 | exact HHW.out.trans HH.out.1), HK.out.2.2.1, HH.out.2.1, by have := HH.out; omega, by have := HH.out; have := HK.out; omega⟩, hid ⟨HI.out.1, Or.inr (by rw [HVA.out, HVB.out]; exact HLL.out)⟩, hid (HX.out _)⟩
      · have b1 : decide (SI < RI) = false := decide_eq_false (by have := HK.out; omega)
        have hsr : r = s := by have := HK.out; omega
        subst hsr
        obtain ⟨e, he⟩ : ∃ e, h0 - r = e := ⟨_, rfl⟩
        obtain ⟨EI, hEI⟩ : ∃ EI : Int, ((xl + al + e : Nat) : Int) = EI := ⟨_, rfl⟩
        have HE : Hid (h0 - r = e ∧ (xl + al + e : Nat) = EI ∧ SI = ((xl + r : Nat) : Int) ∧ r ≤ al ∧ r ≤ h0 ∧ e ≤ be) := hid ⟨he, hEI, HK.out.1, by have := HK.out; have := HS.out; omega, by have := HK.out; have := HS.out; omega, by have := HK.out; have := HS.out; omega⟩
        have WE : Hid (wrap64 (NI - SI) = EI) := hid (by have := HE.out; have := HN.out; rw [wrap_small _ (by omega) (by omega)]; omega)
        have HST : Hid (Stg w wr g X A B Y r e) := hid ⟨HR.out.1, HR.out.2, HA.out, HB.out, by have := HE.out; have := HL.out; omega, by have := HE.out; have := HL.out; omega, by
          have h1 := HI.out.1
          have h2 := HE.out
          have h3 := HS.out
          have h4 := HL.out
          rcases h1 with h1 | h1
          · rcases h3.2.1 with h5 | h5
            · exact Or.inl (by omega)
            · exact Or.inr (Or.inl (by omega))
          · rw [he] at h1; exact Or.inr (Or.inr h1), by
          have h1 := HI.out.2
          have h2 := HE.out
          have h3 := HS.out
          have h4 := HL.out
          rcases h1 with h1 | h1
          · rcases h3.2.2.1 with h5 | h5
            · exact Or.inl (by omega)
            · exact Or.inr (Or.inl (by omega))
          · by_cases e0 : e = 0
            · exact Or.inr (Or.inl e0)
            · rw [show h0 - 1 - r = e - 1 by omega] at h1; exact Or.inr (Or.inr h1)⟩
        clear he hEI HI HR
        have we := WE.out
        obtain ⟨x1, hx1⟩ : ∃ x, decide (r < al) = x := ⟨_, rfl⟩
        obtain ⟨x2, hx2⟩ : ∃ x, decide (r < h0) = x := ⟨_, rfl⟩
        obtain ⟨x3, hx3⟩ : ∃ x, decide (0 < r) = x := ⟨_, rfl⟩
        obtain ⟨x4, hx4⟩ : ∃ x, decide (e < be) = x := ⟨_, rfl⟩
        have f1 : decide (SI < m) = x1 := by rw [← hx1, decide_eq_decide]; have := HE.out; have := HN.out; omega
        have f2 : decide (m < EI) = x2 := by rw [← hx2, decide_eq_decide]; have := HE.out; have := HN.out; omega
        have f3 : decide (a < SI) = x3 := by rw [← hx3, decide_eq_decide]; have := HE.out; have := HN.out; omega
        have f4 : decide (SI < MID) = x2 := by rw [← hx2, decide_eq_decide]; have := HE.out; have := HN.out; omega
        have f5 : decide (MID < EI) = x1 := by rw [← hx1, decide_eq_decide]; have := HE.out; have := HN.out; omega
        have f6 : decide (EI < b) = x4 := by rw [← hx4, decide_eq_decide]; have := HE.out; have := HN.out; omega
        have lA : (A.take r).length = r := by rw [List.length_take]; have := HE.out; have := HL.out; omega
        have lA2 : (A.drop r).length = al - r := by rw [List.length_drop]; have := HL.out; omega
        have lB : (B.take e).length = e := by rw [List.length_take]; have := HE.out; have := HL.out; omega
        have lB2 : (B.drop e).length = be - e := by rw [List.length_drop]; have := HL.out; omega
        have sA1 : Sd less (A.take r) := Sd_left (B := A.drop r) (by rw [List.take_append_drop]; exact HA.out)
        have sA2 : Sd less (A.drop r) := Sd_right (A := A.take r) (by rw [List.take_append_drop]; exact HA.out)
        have sB1 : Sd less (B.take e) := Sd_left (B := B.drop e) (by rw [List.take_append_drop]; exact HB.out)
        have sB2 : Sd less (B.drop e) := Sd_right (A := B.take e) (by rw [List.take_append_drop]; exact HB.out)
        have hlen : (X ++ (A ++ (B ++ Y))).length = xl + (al + (be + Y.length)) := by simp only [List.length_append]; have := HL.out; omega
        have NO1 : Hid (x1 = false ∨ x2 = false → r = A.length ∨ e = 0) := hid (by
          intro h
          have h1 := HE.out
          have h2 := HL.out
          rcases h with h | h
          · rw [h, decide_eq_false_iff_not] at hx1; omega
          · rw [h, decide_eq_false_iff_not] at hx2; omega)
        have NO2 : Hid (x3 = false ∨ x2 = false → r = 0 ∨ e = 0) := hid (by
          intro h
          have h1 := HE.out
          rcases h with h | h
          · rw [h, decide_eq_false_iff_not] at hx3; omega
          · rw [h, decide_eq_false_iff_not] at hx2; omega)
        have NO3 : Hid (x1 = false ∨ x4 = false → r = A.length ∨ e = B.length) := hid (by
          intro h
          have h1 := HE.out
          have h2 := HL.out
          rcases h with h | h
          · rw [h, decide_eq_false_iff_not] at hx1; omega
          · rw [h, decide_eq_false_iff_not] at hx4; omega)
        have ROT : Hid (x1 = true → x2 = true → Calls Try.prog 48 #[.slice (some ⟨g, 0, none⟩) N c, .int .i64 SI, .int .i64 m, .int .i64 EI, .func (.func 43) #[] #[]] wr fun e1 W => e1 = .returned (.tuple #[]) ∧ Stg1 w W g X A B Y r e) := hid (by
          intro h1 h2
          rw [h1, decide_eq_true_iff] at hx1
          rw [h2, decide_eq_true_iff] at hx2
          have h3 := HE.out
          have h4 := HL.out
          have h5 := HN.out
          refine (rotate (.func (.func 43) #[] #[]) (X ++ A.take r) (A.drop r) (B.take e) (B.drop e ++ Y) N c g wr HST.out.pre (by omega) (by omega) (by rw [List.length_append, lA, lA2, lB]; omega) (by simp only [List.length_append, lA, lA2, lB, lB2]; omega) h4.2.2.2.2.2.1 SI m EI (by rw [List.length_append, lA]; omega) (by rw [List.length_append, lA, lA2]; omega) (by rw [List.length_append, lA, lA2, lB]; omega)).mono ?_
          rintro e1 W ⟨rfl, hD⟩
          exact ⟨rfl, HST.out.rot hD⟩)
        have ONE : Hid (x3 = true → x2 = true → ∀ W, Stg1 w W g X A B Y r e → Calls Try.prog 47 #[.slice (some ⟨g, 0, none⟩) N c, .int .i64 a, .int .i64 SI, .int .i64 MID, .func (.func 43) #[] #[]] W fun e1 W' => e1 = .returned (.tuple #[]) ∧ Stg2 w W' g X A B Y r e) := hid (by
          intro h1 h2 W hS
          rw [h1, decide_eq_true_iff] at hx3
          rw [h2, decide_eq_true_iff] at hx2
          have h3 := HE.out
          have h4 := HL.out
          have h5 := HN.out
          refine (HIH.out X (A.take r) (B.take e) (A.drop r ++ (B.drop e ++ Y)) N c g W hS.row (by rw [lA, lB]; omega) (by omega) (by omega) sA1 sB1 (by rw [lA, lB]; omega) (by simp only [List.length_append, lA, lA2, lB, lB2]; omega) h4.2.2.2.2.2.1 a SI MID (by omega) (by rw [lA]; omega) (by rw [lA, lB]; omega)).mono ?_
          rintro e1 W' ⟨rfl, hD⟩
          exact ⟨rfl, hS.one hD⟩)
        have TWO : Hid (x1 = true → x4 = true → ∀ W, Stg2 w W g X A B Y r e → Calls Try.prog 47 #[.slice (some ⟨g, 0, none⟩) N c, .int .i64 MID, .int .i64 EI, .int .i64 b, .func (.func 43) #[] #[]] W fun e1 W' => e1 = .returned (.tuple #[]) ∧ Srt w W' g X (A ++ B) Y) := hid (by
          intro h1 h2 W hS
          rw [h1, decide_eq_true_iff] at hx1
          rw [h2, decide_eq_true_iff] at hx4
          have h3 := HE.out
          have h4 := HL.out
          have h5 := HN.out
          obtain ⟨M1, hr, p1, s1⟩ := hS.ex
          have lM : M1.length = h0 := by rw [p1.length_eq, List.length_append, lA, lB]; omega
          have hlt : (X ++ (M1 ++ (A.drop r ++ (B.drop e ++ Y)))).length = xl + (al + (be + Y.length)) := by simp only [List.length_append, lM, lA2, lB2]; omega
          refine (HIH.out (X ++ M1) (A.drop r) (B.drop e) Y N c g W (by rw [List.append_assoc]; exact hr) (by rw [lA2, lB2]; omega) (by omega) (by omega) sA2 sB2 (by rw [List.length_append, lM, lA2, lB2]; omega) (by rw [List.append_assoc, hlt]; omega) h4.2.2.2.2.2.1 MID EI b (by rw [List.length_append, lM]; omega) (by rw [List.length_append, lM, lA2]; omega) (by rw [List.length_append, lM, lA2, lB2]; omega)).mono ?_
          rintro e1 W' ⟨rfl, hD⟩
          exact ⟨rfl, Stg2.one HST.out hS.bt p1 s1 hD⟩)
        clear hx1 hx2 hx3 hx4 lA lA2 lB lB2 sA1 sA2 sB1 sB2 hlen cpq
        cases x1 <;> cases x2 <;> cases x3 <;> cases x4
        all_goals
          have w3 := W3.out
          have w4 := W4.out
          have w5 := W5.out
          go_wp2_with (first
            | (go_at_call 48; (with_reducible refine (ROT.out (by simp) (by simp)).mono ?_); rintro e1 wA ⟨rfl, hD⟩; have S1 := hid hD; clear hD)
            | (go_at_call 47; (with_reducible refine (ONE.out (by simp) (by simp) _ (by first | exact S1.out | exact HST.out.none (NO1.out (by simp)))).mono ?_); rintro e1 wB ⟨rfl, hD⟩; have S2 := hid hD; clear hD)
            | (go_at_call 47; (with_reducible refine (TWO.out (by simp) (by simp) _ (by first | exact S2.out | exact S1.out.none HST.out (NO2.out (by simp)) | exact (HST.out.none (NO1.out (by simp))).none HST.out (NO2.out (by simp)))).mono ?_); rintro e1 wC ⟨rfl, hD⟩; have S3 := hid hD; clear hD))
          exact ⟨rfl, .tuple #[], by simp [results, Try.results47], rfl, by first | exact S3.out | exact S2.out.none HST.out (NO3.out (by simp)) | exact (S1.out.none HST.out (NO2.out (by simp))).none HST.out (NO3.out (by simp)) | exact ((HST.out.none (NO1.out (by simp))).none HST.out (NO2.out (by simp))).none HST.out (NO3.out (by simp))⟩
end Go.Proofs.Ytebfnmhpmgjoiaa.Fl
