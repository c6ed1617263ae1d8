/- palloc: Take. -/
import Derived.Test.YtlojhiacaleokaaDoorPr
namespace Go.Proofs.YtlojhiacaleokaaDoor.Pa
open Go.RowKit
set_option linter.unusedVariables false
set_option linter.unusedSimpArgs false
theorem scope {P : Program} {a : Act} {w : World} {Q : Exit → Act → World → Prop} {c R : Code} (l : Nat) (J : Act → World → Prop) (μ : Act → World → Nat) (hf : findLabel c l = some (Code.seq Code.skip R))
    (pass : ∀ a w, J a w → R.wp P (Exit.jump l (fun a' w' => J a' w' ∧ μ a' w' < μ a w) Q) a w)
    (first : (∀ a w, J a w → R.wp P (Exit.jump l J Q) a w) → c.wp P (Exit.jump l J Q) a w) : (Code.scope c).wp P Q a w :=
  wp_scope_jumps l J μ hf (first fun a w h => wp_mono (pass a w h) (by
    intro e a' w' hq
    cases e <;> first | exact hq | exact ⟨hq.1, hq.2.1⟩)) (fun a w h => wp_seq (wp_skip (pass a w h)))
theorem take_none {w : World} {b g n : Nat} {L : List Nat} (h : PS w b g n L) (hl : L.length = n) :
    Calls Tryd.prog 10 #[.pointer (some ⟨b, 0, none⟩)] w fun e w' => e = .returned (.tuple #[.int .i64 0, .bool false]) ∧ w' = w := by
  have hf := h.free
  rw [hl, Int.sub_self] at hf
  clear h
  go_enter Tryd.func10, Tryd.ntmps10
  go_wp2
  refine scope 0 (fun _ _ => False) (fun _ _ => 0) rfl (fun _ _ h => h.elim) (fun _ => ?_)
  go_wp2_with (first | (go_at_call 9; refine hf.mono ?_; rintro e w' ⟨rfl, rfl⟩))
  simp only [Exit.jump]
  go_ret2
  exact ⟨rfl, rfl⟩
theorem take_nil (w : World) : Calls Tryd.prog 10 #[.pointer none] w fun e w' => e = .returned (.tuple #[.int .i64 0, .bool false]) ∧ w' = w := by
  have hf := free_nil w
  go_enter Tryd.func10, Tryd.ntmps10
  go_wp2
  refine scope 0 (fun _ _ => False) (fun _ _ => 0) rfl (fun _ _ h => h.elim) (fun _ => ?_)
  go_wp2_with (first | (go_at_call 9; refine hf.mono ?_; rintro e w' ⟨rfl, rfl⟩))
  simp only [Exit.jump]
  go_ret2
  exact ⟨rfl, rfl⟩
theorem not_is (x : Nat) (hx : x < 18446744073709551616) (y : Nat) (hy : y = 18446744073709551615 ^^^ x) : bits BinOp.xor IntKind.u64 (if IntKind.u64.signed = true then -1 else IntKind.u64.max) (x : Int) = (y : Int) := by
  have h := u64_xor_nat 18446744073709551615 x (by decide) hx
  rw [hy, ← h]
  rfl
theorem not_lt (x : Nat) (hx : x < 18446744073709551616) (y : Nat) (hy : y = 18446744073709551615 ^^^ x) : y < 18446744073709551616 := by
  rw [hy]
  exact Nat.xor_lt_two_pow (n := 64) (by decide) hx
theorem not_bits (x : Nat) (hx : x < 18446744073709551616) (k : Nat) (hk : k ≠ 0) (y : Nat) (hy : y = 18446744073709551615 ^^^ x) (s : Nat) : y.testBit s = freeb x k s := by
  rw [hy, Nat.testBit_xor, show (18446744073709551615 : Nat) = 2 ^ 64 - 1 by decide, Nat.testBit_two_pow_sub_one, freeb, decide_eq_false hk, Bool.false_and, Bool.not_false, Bool.and_true]
  by_cases c : s < 64
  · rw [decide_eq_true c, Bool.true_and, Bool.true_xor]
  · have : x.testBit s = false := Nat.testBit_lt_two_pow (Nat.lt_of_lt_of_le hx (by
      have := Nat.pow_le_pow_right (show 0 < 2 by decide) (show 64 ≤ s by omega)
      have h64 : (2 : Nat) ^ 64 = 18446744073709551616 := by decide
      omega))
    rw [decide_eq_false c, this]; rfl
theorem not0_is (x : Nat) (hx : x < 18446744073709551616) (y : Nat) (hy : y = (18446744073709551615 ^^^ x) &&& (18446744073709551615 - 1)) : bits BinOp.andNot IntKind.u64 (bits BinOp.xor IntKind.u64 (if IntKind.u64.signed = true then -1 else IntKind.u64.max) (x : Int)) 1 = (y : Int) := by
  rw [not_is x hx _ rfl, hy]
  exact u64_andNot_nat _ 1 (not_lt x hx _ rfl) (by decide)
theorem not0_lt (x : Nat) (hx : x < 18446744073709551616) (y : Nat) (hy : y = (18446744073709551615 ^^^ x) &&& (18446744073709551615 - 1)) : y < 18446744073709551616 := by
  rw [hy]
  exact Nat.lt_of_le_of_lt Nat.and_le_right (by decide)
theorem not0_bits (x : Nat) (hx : x < 18446744073709551616) (y : Nat) (hy : y = (18446744073709551615 ^^^ x) &&& (18446744073709551615 - 1)) (s : Nat) : y.testBit s = freeb x 0 s := by
  rw [hy, Nat.testBit_and, not_bits x hx 1 (by decide) _ rfl s, show (18446744073709551615 - 1 : Nat) = 2 ^ 64 - (1 + 1) by decide, Nat.testBit_two_pow_sub_succ (by decide)]
  unfold freeb
  rw [decide_eq_false (show ¬ (1 = 0) by decide), Bool.false_and, Bool.not_false, Bool.and_true, decide_eq_true (show 0 = 0 by rfl), Bool.true_and]
  by_cases c : s < 64
  · rw [decide_eq_true c, Bool.true_and, Bool.true_and]
    congr 2
    rw [show (1 : Nat) = 2 ^ 0 by rfl, Nat.testBit_two_pow, decide_eq_decide]
    omega
  · rw [decide_eq_false c]; simp
theorem wrap_small (x : Int) (h1 : -9223372036854775808 ≤ x) (h2 : x ≤ 9223372036854775807) : wrap64 x = x := by
  unfold wrap64; omega
def J (w : World) (b N : Nat) (xs : List Nat) (a' : Act) (w' : World) : Prop :=
  ∃ (k : Nat) (u1 u5 u6 u7 u8 u9 u10 u11 u12 u13 u14 u15 u16 u17 u18 u19 u20 u21 u22 u23 u24 u25 u26 u27 u28 u29 u30 u31 u32 u33 u34 : Value),
    a' = { tmps := #[.pointer (some ⟨b, 0, none⟩), u1, .int .i64 0, .bool false, .int .i64 (k : Int), u5, u6, u7, u8, u9, u10, u11, u12, u13, u14, u15, u16, u17, u18, u19, u20, u21, u22, u23, u24, u25, u26, u27, u28, u29, u30, u31, u32, u33, u34], defers := [] } ∧ w' = w ∧ Hid (64 * k ≤ N) ∧ Hid (∀ j, 1 ≤ j → j < 64 * k → bit xs j = true)
set_option maxHeartbeats 2000000 in
theorem take_ {w : World} {b g n : Nat} {L : List Nat} (h : PS w b g n L) (hT : Tz.Tb w) (hl : L.length < n) :
    Calls Tryd.prog 10 #[.pointer (some ⟨b, 0, none⟩)] w fun e w' => ∃ m : Nat, e = .returned (.tuple #[.int .i64 m, .bool true]) ∧ Mex L m ∧ m ≤ n ∧ PS w' b g n (insL L m) ∧ Fr b g w w' := by
  have hf := h.free
  have hcz : (((n : Int) - (L.length : Int)) == 0) = false := by simp; omega
  have hn1 := h.n1
  have HS := hid h
  obtain ⟨N, N1, N2, N3⟩ := not_full n L h.sorted h.inn hl
  obtain ⟨xs, hp, hul⟩ := h.ex
  have HP := hid hp
  have HU := hid hul
  have HN : Hid (1 ≤ N ∧ N ≤ n ∧ bit xs N = false) := by
    refine hid ⟨N1, N2, ?_⟩
    rw [← hul, mem_ul] at N3
    simpa using N3
  have HL := hid hl
  have HN1 := hid hn1
  have h2 := hp.c2
  clear h hp hul N1 N2 N3 hl hn1
  go_enter Tryd.func10, Tryd.ntmps10
  go_wp2
  refine scope 0 (J w b N xs) (fun a' _ => N / 64 - (intOf (a'.tmps.getD 4 undef)).toNat) rfl ?_ ?_
  · rintro a w' ⟨k, u1, u5, u6, u7, u8, u9, u10, u11, u12, u13, u14, u15, u16, u17, u18, u19, u20, u21, u22, u23, u24, u25, u26, u27, u28, u29, u30, u31, u32, u33, u34, rfl, rfl, HK, HF⟩
    have hm : k < xs.length := by
      have h1 := HP.out.len
      have h2 := HN.out
      have h3 := HK.out
      omega
    have hc := HP.out.cell k hm
    have hx := HP.out.lt _ (List.getElem_mem hm)
    have hxg : xs.getD k 0 = xs[k] := by rw [List.getD_eq_getElem?_getD, List.getElem?_eq_getElem hm]; rfl
    obtain ⟨x, hxe⟩ : ∃ x, xs[k] = x := ⟨_, rfl⟩
    rw [hxe] at hc hx hxg
    have HX := hid hx
    have HG := hid hxg
    have hz : (k : Int) < (xs.length : Int) := by omega
    have hk0 : (0 : Int) ≤ (k : Int) := Int.natCast_nonneg k
    clear hx hxg hxe hm
    by_cases ck : k = 0
    · have ckb : ((k : Int) == 0) = true := by rw [ck]; rfl
      obtain ⟨y, hye⟩ : ∃ y, y = (18446744073709551615 ^^^ x) &&& (18446744073709551615 - 1) := ⟨_, rfl⟩
      have hy := not0_bits x HX.out y hye
      have key := not0_is x HX.out y hye
      have hylt := not0_lt x HX.out y hye
      have HY : Hid (∀ s, y.testBit s = freeb (xs.getD k 0) k s) := hid (by rw [HG.out, ck]; exact hy)
      have HYL := hid hylt
      clear hye hy hylt ck
      by_cases cy : y = 0
      · have hyb : ((y : Int) == 0) = true := by rw [cy]; rfl
        have HN' := hid (full_word xs k y HF.out HY.out cy)
        have HK' : Hid (64 * (k + 1) ≤ N) := hid (word_free xs (k + 1) N HN'.out HN.out.1 HN.out.2.2)
        have hk1 : wrap64 ((k : Int) + 1) = ((k + 1 : Nat) : Int) := by
          have h1 := HK.out
          have h2 := HN.out
          have h3 := HN1.out
          rw [wrap_small _ (by omega) (by omega)]; rfl
        obtain ⟨KI, hKI⟩ : ∃ KI : Int, ((k + 1 : Nat) : Int) = KI := ⟨_, rfl⟩
        rw [hKI] at hk1
        have HKI := hid hKI
        clear cy hKI
        go_wp2_with (simp only [key])
        go_step3
        try rw [hk1]
        obtain rfl := HKI.out
        refine ⟨rfl, ⟨k + 1, _, _, _, _, _, _, _, _, _, _, _, _, _, _, _, _, _, _, _, _, _, _, _, _, _, _, _, _, _, _, _, rfl, rfl, HK', HN'⟩, ?_⟩
        have h1 := HK'.out
        simp [intOf]
        omega
      · have hyb : ((y : Int) == 0) = false := by simp; omega
        have HM := hid (free_word xs k y HF.out HY.out cy HYL.out)
        obtain ⟨t, ht⟩ : ∃ t, Lib.ctz 64 y = t := ⟨_, rfl⟩
        have htz := Tz.tz y HYL.out w' hT
        have ht64 : t < 64 := by
          obtain ⟨_, _, h⟩ := ctz_is y cy HYL.out
          omega
        rw [ht] at HM htz
        have hMl : Hid (64 * k + t ≤ n) := by
          refine hid (Mex.le (L := L) ?_ HS.out.sorted HS.out.inn HL.out)
          rw [← HU.out]; exact HM.out
        have hmul : wrap64 ((k : Int) * 64) = ((64 * k : Nat) : Int) := by
          have h1 := hMl.out
          have h3 := HN1.out
          rw [wrap_small _ (by omega) (by omega)]; omega
        have hadd : wrap64 (((64 * k : Nat) : Int) + (t : Int)) = ((64 * k + t : Nat) : Int) := by
          have h1 := hMl.out
          have h3 := HN1.out
          rw [wrap_small _ (by omega) (by omega)]; omega
        have hus := HS.out.use ((64 * k + t : Nat) : Int)
        have hul : useL n L ((64 * k + t : Nat) : Int) = insL L (64 * k + t) := by
          unfold useL
          have h4 := HM.out
          rw [HU.out] at h4
          have h5 := h4.pos
          have h6 := hMl.out
          rw [Int.toNat_natCast, if_pos ⟨by omega, by omega, h4.out⟩]
        rw [hul] at hus
        have HM' : Hid (Mex L (64 * k + t)) := by rw [HU.out] at HM; exact HM
        clear cy ht64 hul HM hf
        generalize 64 * k + t = M at hadd hus HM' hMl
        generalize ((64 * k : Nat) : Int) = K at hadd hmul
        obtain ⟨MI, hMI⟩ : ∃ MI : Int, (M : Int) = MI := ⟨_, rfl⟩
        rw [hMI] at hadd hus
        have HMI := hid hMI
        clear hMI
        go_wp2_with (first | simp only [key] | (go_at_call 22; (with_reducible refine htz.mono ?_); rintro e w2 ⟨rfl, rfl⟩) | (go_at_call 21; (with_reducible refine hus.mono ?_); rintro e w2 ⟨rfl, hP, hF⟩; have HP2 := hid hP; have HF2 := hid hF; clear hP hF))
        simp only [Exit.jump]
        go_ret2
        exact ⟨M, by have h := HMI.out; subst h; first | rfl | simp [hadd], HM'.out, hMl.out, HP2.out, HF2.out⟩
    · have ckb : ((k : Int) == 0) = false := by simp; omega
      obtain ⟨y, hye⟩ : ∃ y, y = 18446744073709551615 ^^^ x := ⟨_, rfl⟩
      have hy := not_bits x HX.out k ck y hye
      have key := not_is x HX.out y hye
      have hylt := not_lt x HX.out y hye
      have HY : Hid (∀ s, y.testBit s = freeb (xs.getD k 0) k s) := hid (by rw [HG.out]; exact hy)
      have HYL := hid hylt
      clear hye hy hylt ck
      by_cases cy : y = 0
      · have hyb : ((y : Int) == 0) = true := by rw [cy]; rfl
        have HN' := hid (full_word xs k y HF.out HY.out cy)
        have HK' : Hid (64 * (k + 1) ≤ N) := hid (word_free xs (k + 1) N HN'.out HN.out.1 HN.out.2.2)
        have hk1 : wrap64 ((k : Int) + 1) = ((k + 1 : Nat) : Int) := by
          have h1 := HK.out
          have h2 := HN.out
          have h3 := HN1.out
          rw [wrap_small _ (by omega) (by omega)]; rfl
        obtain ⟨KI, hKI⟩ : ∃ KI : Int, ((k + 1 : Nat) : Int) = KI := ⟨_, rfl⟩
        rw [hKI] at hk1
        have HKI := hid hKI
        clear cy hKI
        go_wp2_with (simp only [key])
        go_step3
        try rw [hk1]
        obtain rfl := HKI.out
        refine ⟨rfl, ⟨k + 1, _, _, _, _, _, _, _, _, _, _, _, _, _, _, _, _, _, _, _, _, _, _, _, _, _, _, _, _, _, _, _, rfl, rfl, HK', HN'⟩, ?_⟩
        have h1 := HK'.out
        simp [intOf]
        omega
      · have hyb : ((y : Int) == 0) = false := by simp; omega
        have HM := hid (free_word xs k y HF.out HY.out cy HYL.out)
        obtain ⟨t, ht⟩ : ∃ t, Lib.ctz 64 y = t := ⟨_, rfl⟩
        have htz := Tz.tz y HYL.out w' hT
        have ht64 : t < 64 := by
          obtain ⟨_, _, h⟩ := ctz_is y cy HYL.out
          omega
        rw [ht] at HM htz
        have hMl : Hid (64 * k + t ≤ n) := by
          refine hid (Mex.le (L := L) ?_ HS.out.sorted HS.out.inn HL.out)
          rw [← HU.out]; exact HM.out
        have hmul : wrap64 ((k : Int) * 64) = ((64 * k : Nat) : Int) := by
          have h1 := hMl.out
          have h3 := HN1.out
          rw [wrap_small _ (by omega) (by omega)]; omega
        have hadd : wrap64 (((64 * k : Nat) : Int) + (t : Int)) = ((64 * k + t : Nat) : Int) := by
          have h1 := hMl.out
          have h3 := HN1.out
          rw [wrap_small _ (by omega) (by omega)]; omega
        have hus := HS.out.use ((64 * k + t : Nat) : Int)
        have hul : useL n L ((64 * k + t : Nat) : Int) = insL L (64 * k + t) := by
          unfold useL
          have h4 := HM.out
          rw [HU.out] at h4
          have h5 := h4.pos
          have h6 := hMl.out
          rw [Int.toNat_natCast, if_pos ⟨by omega, by omega, h4.out⟩]
        rw [hul] at hus
        have HM' : Hid (Mex L (64 * k + t)) := by rw [HU.out] at HM; exact HM
        clear cy ht64 hul HM hf
        generalize 64 * k + t = M at hadd hus HM' hMl
        generalize ((64 * k : Nat) : Int) = K at hadd hmul
        obtain ⟨MI, hMI⟩ : ∃ MI : Int, (M : Int) = MI := ⟨_, rfl⟩
        rw [hMI] at hadd hus
        have HMI := hid hMI
        clear hMI
        go_wp2_with (first | simp only [key] | (go_at_call 22; (with_reducible refine htz.mono ?_); rintro e w2 ⟨rfl, rfl⟩) | (go_at_call 21; (with_reducible refine hus.mono ?_); rintro e w2 ⟨rfl, hP, hF⟩; have HP2 := hid hP; have HF2 := hid hF; clear hP hF))
        simp only [Exit.jump]
        go_ret2
        exact ⟨M, by have h := HMI.out; subst h; first | rfl | simp [hadd], HM'.out, hMl.out, HP2.out, HF2.out⟩
  · intro h
    go_wp2_with (first | (go_at_call 9; refine hf.mono ?_; rintro e w' ⟨rfl, rfl⟩))
    go_step3
    rename_i hK
    refine hK _ _ ?_
    refine h _ _ ⟨0, _, _, _, _, _, _, _, _, _, _, _, _, _, _, _, _, _, _, _, _, _, _, _, _, _, _, _, _, _, _, _, rfl, rfl, hid (by omega), hid (fun j h1 h2 => by omega)⟩
end Go.Proofs.YtlojhiacaleokaaDoor.Pa
