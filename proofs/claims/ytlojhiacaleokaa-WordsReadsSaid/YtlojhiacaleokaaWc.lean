/- Whatever words there are: numbers and texts of them, or none, as soon as one can't be: WordsReads' walk, for all words and asks. -/
import Derived.Test.YtlojhiacaleokaaWn
namespace Go.Proofs.Ytlojhiacaleokaa.PWD
open Go.RowKit Go.Proofs.YtlojhiacaleokaaW.PrintWords Go.Proofs.YtlojhiacaleokaaW.PrintLast Go.Proofs.YtlojhiacaleokaaW.PrintMore
set_option linter.unusedVariables false
set_option linter.unusedSimpArgs false
def RS (base g : Nat) (l0 : List Int) (p : Nat) (b : Bool) (W : World) : Prop := ∃ q, (b = false → q = p) ∧ Rd W base g (l0.drop q) b
theorem RS_drewN {base g : Nat} {l0 : List Int} {p : Nat} {b : Bool} {W : World} (h : RS base g l0 p b W) (n : Nat) : RS base g l0 p b (W.drewN n) := by
  obtain ⟨q, h1, h2⟩ := h; exact ⟨q, h1, Rd_drewN h2 n⟩
theorem RS_below {base g : Nat} {l0 : List Int} {p : Nat} {b : Bool} {W W' : World} (h : RS base g l0 p b W) (hb : Below W.heap.size W W') : RS base g l0 p b W' := by
  obtain ⟨q, h1, h2⟩ := h; exact ⟨q, h1, Rd_below h2 hb⟩
theorem RS_bad {base g : Nat} {l0 : List Int} {p : Nat} {b : Bool} {w : World} (h : RS base g l0 p b w) :
    Calls Try.prog 20 #[.pointer (some ⟨g, 0, none⟩)] w fun e w' => e = .returned (.bool b) ∧ Drawn0 w w' := by
  obtain ⟨q, h1, h2⟩ := h; exact bad_calls base g _ b w h2
theorem RS_left0 {base g : Nat} {l0 : List Int} {p : Nat} {w : World} (h : RS base g l0 p true w) :
    Calls Try.prog 21 #[.pointer (some ⟨g, 0, none⟩)] w fun e w' => e = .returned (.int .i64 0) ∧ Drawn0 w w' := by
  obtain ⟨q, h1, h2⟩ := h; exact left_calls base g _ true w h2
theorem RS_left {base g : Nat} {l0 : List Int} {p : Nat} {w : World} (n : Int) (hn : n = (l0.length : Int) - p) (hp : p ≤ l0.length) (h : RS base g l0 p false w) :
    Calls Try.prog 21 #[.pointer (some ⟨g, 0, none⟩)] w fun e w' => e = .returned (.int .i64 n) ∧ Drawn0 w w' := by
  obtain ⟨q, h1, h2⟩ := h
  obtain rfl := h1 rfl
  have hh := left_calls base g _ false w h2
  rw [if_neg (by decide), List.length_drop] at hh
  have e : ((l0.length - q : Nat) : Int) = n := by omega
  rw [e] at hh; exact hh
theorem drop_pos {l0 : List Int} (h : ∀ x ∈ l0, 0 ≤ x) (q : Nat) : ∀ x ∈ l0.drop q, 0 ≤ x := fun x hx => h x (List.mem_of_mem_drop hx)
/-- Num, of a bad reader. -/
theorem num_b {base g p : Nat} {l0 : List Int} {w : World} (h : RS base g l0 p true w) :
    Calls Try.prog 19 #[.pointer (some ⟨g, 0, none⟩)] w fun e w' => e = .returned (.int .i64 0) ∧ RS base g l0 p true w' ∧ Below base w w' := by
  obtain ⟨q, h1, h2⟩ := h
  refine (rnum_bad base g _ w h2).mono ?_
  rintro e w' ⟨h3, h4, h5⟩
  exact ⟨h3, ⟨q, (fun hh => nomatch hh), h4⟩, h5⟩
/-- Num, none left. -/
theorem num_e {base g p : Nat} {l0 : List Int} {w : World} (hp : ¬ p < l0.length) (h : RS base g l0 p false w) :
    Calls Try.prog 19 #[.pointer (some ⟨g, 0, none⟩)] w fun e w' => e = .returned (.int .i64 0) ∧ RS base g l0 p true w' ∧ Below base w w' := by
  obtain ⟨q, h1, h2⟩ := h
  obtain rfl := h1 rfl
  rw [List.drop_eq_nil_of_le (by omega)] at h2
  refine (rnum_nil base g w h2).mono ?_
  rintro e w' ⟨h3, h4, h5⟩
  exact ⟨h3, ⟨l0.length, (fun hh => nomatch hh), by rw [List.drop_length]; exact h4⟩, h5⟩
theorem num_k {base g p : Nat} {l0 : List Int} {w : World} (n : Nat) (hp : p < l0.length) (hn : rd l0 (p : Int) = n) (hc : (n : Int) ≤ 4611686018427387904) (h : RS base g l0 p false w) :
    Calls Try.prog 19 #[.pointer (some ⟨g, 0, none⟩)] w fun e w' => e = .returned (.int .i64 n) ∧ RS base g l0 (p + 1) false w' ∧ Below base w w' := by
  obtain ⟨q, h1, h2⟩ := h
  obtain rfl := h1 rfl
  rw [dropI_rd l0 q hp, hn] at h2
  refine (rnum_ok base g _ _ w (by omega) hc h2).mono ?_
  rintro e w' ⟨h3, h4, h5⟩
  exact ⟨h3, ⟨q + 1, fun _ => rfl, h4⟩, h5⟩
theorem num_g {base g p : Nat} {l0 : List Int} {w : World} (n : Nat) (hp : p < l0.length) (hn : rd l0 (p : Int) = n) (hc : ¬ (n : Int) ≤ 4611686018427387904) (h : RS base g l0 p false w) :
    Calls Try.prog 19 #[.pointer (some ⟨g, 0, none⟩)] w fun e w' => e = .returned (.int .i64 0) ∧ RS base g l0 p true w' ∧ Below base w w' := by
  obtain ⟨q, h1, h2⟩ := h
  obtain rfl := h1 rfl
  rw [dropI_rd l0 q hp, hn] at h2
  refine (rnum_big base g _ _ w (by omega) h2).mono ?_
  rintro e w' ⟨h3, h4, h5⟩
  exact ⟨h3, ⟨q + 1, (fun hh => nomatch hh), h4⟩, h5⟩
theorem text_b {base g p : Nat} {l0 : List Int} {w : World} (a : Int) (h0 : 0 ≤ a) (hl : l0.length ≤ 60) (hL : ∀ x ∈ l0, 0 ≤ x) (h : RS base g l0 p true w) :
    Calls Try.prog 18 #[.pointer (some ⟨g, 0, none⟩), .int .i64 a] w fun e w' => e = .returned (.string ⟨#[]⟩) ∧ RS base g l0 p true w' ∧ Below base w w' := by
  obtain ⟨q, h1, h2⟩ := h
  have hh := rtext_calls base g _ true a w (drop_pos hL q) (Or.inl (by rw [List.length_drop]; omega)) h2
  rw [tt_bad _ a h0] at hh
  refine hh.mono ?_
  rintro e w' ⟨h3, h4, h5⟩
  exact ⟨h3, ⟨q, (fun hh => nomatch hh), h4⟩, h5⟩
theorem text_e {base g p : Nat} {l0 : List Int} {w : World} (a : Int) (h0 : 0 ≤ a) (hl : l0.length ≤ 60) (hL : ∀ x ∈ l0, 0 ≤ x) (hp : ¬ p < l0.length) (h : RS base g l0 p false w) :
    Calls Try.prog 18 #[.pointer (some ⟨g, 0, none⟩), .int .i64 a] w fun e w' => e = .returned (.string ⟨#[]⟩) ∧ RS base g l0 p true w' ∧ Below base w w' := by
  obtain ⟨q, h1, h2⟩ := h
  obtain rfl := h1 rfl
  have hh := rtext_calls base g _ false a w (drop_pos hL q) (Or.inl (by rw [List.length_drop]; omega)) h2
  rw [List.drop_eq_nil_of_le (by omega), tt_nil a h0] at hh
  refine hh.mono ?_
  rintro e w' ⟨h3, h4, h5⟩
  exact ⟨h3, ⟨l0.length, (fun hh => nomatch hh), by rw [List.drop_length]; exact h4⟩, h5⟩
theorem text_n {base g p : Nat} {l0 : List Int} {w : World} (a : Int) (n : Nat) (h0 : 0 ≤ a) (hl : l0.length ≤ 60) (hL : ∀ x ∈ l0, 0 ≤ x) (hp : p < l0.length) (hn : rd l0 (p : Int) = n) (hc : a < (n : Int) ∨ l0.length - (p + 1) < (n + 7) / 8) (h : RS base g l0 p false w) :
    Calls Try.prog 18 #[.pointer (some ⟨g, 0, none⟩), .int .i64 a] w fun e w' => e = .returned (.string ⟨#[]⟩) ∧ RS base g l0 p true w' ∧ Below base w w' := by
  obtain ⟨q, h1, h2⟩ := h
  obtain rfl := h1 rfl
  have hh := rtext_calls base g _ false a w (drop_pos hL q) (Or.inl (by rw [List.length_drop]; omega)) h2
  rw [dropI_rd l0 q hp, hn, tt_no n _ a h0 (by rw [List.length_drop]; exact hc)] at hh
  refine hh.mono ?_
  rintro e w' ⟨h3, h4, h5⟩
  exact ⟨h3, ⟨q + 1, (fun hh => nomatch hh), h4⟩, h5⟩
theorem text_y {base g p : Nat} {l0 : List Int} {w : World} (a : Int) (n m p' : Nat) (o : List Int) (is : Bool) (h0 : 0 ≤ a) (hl : l0.length ≤ 60) (hL : ∀ x ∈ l0, 0 ≤ x) (hp : p < l0.length) (hn : rd l0 (p : Int) = n) (hc : (n : Int) ≤ a) (hm : m = (n + 7) / 8) (hc2 : p + 1 + m ≤ l0.length) (hp' : p' = p + 1 + m) (ho : unv ((l0.drop (p + 1)).take m) (n : Int) = (o, is)) (h : RS base g l0 p false w) :
    Calls Try.prog 18 #[.pointer (some ⟨g, 0, none⟩), .int .i64 a] w fun e w' => e = .returned (.string (if is = true then strOfNums o else ⟨#[]⟩)) ∧ RS base g l0 p' (!is) w' ∧ Below base w w' := by
  obtain ⟨q, h1, h2⟩ := h
  obtain rfl := h1 rfl
  have hh := rtext_calls base g _ false a w (drop_pos hL q) (Or.inl (by rw [List.length_drop]; omega)) h2
  subst hm
  rw [dropI_rd l0 q hp, hn, tt_yes n _ a hc (by omega) (by rw [List.length_drop]; omega), ho] at hh
  refine hh.mono ?_
  rintro e w' ⟨h3, h4, h5⟩
  refine ⟨h3, ⟨q + 1 + (n + 7) / 8, fun _ => hp'.symm, ?_⟩, h5⟩
  rw [List.drop_drop] at h4
  exact h4
theorem U_mem {l : List Int} (h : U l) (x : Int) (hx : x ∈ l) : 0 ≤ x ∧ x < 18446744073709551616 := by
  obtain ⟨i, hi, rfl⟩ := List.getElem_of_mem hx
  have := h i
  have e : rd l (i : Int) = l[i] := by simp [rd, List.getD_eq_getElem?_getD, hi]
  rw [e] at this; exact this
theorem U_of {l : List Int} (h : ∀ x ∈ l, 0 ≤ x ∧ x < 18446744073709551616) : U l := Q.rd_all (p := fun x => 0 ≤ x ∧ x < 18446744073709551616) h (by omega)
theorem U_cut {l : List Int} (h : U l) (q m : Nat) : U ((l.drop q).take m) := U_of (fun x hx => U_mem h x (List.mem_of_mem_drop (List.mem_of_mem_take hx)))
theorem sl_C {W : World} {A0 : Option Addr} {c0 q m : Nat} {l0 : List Int} (hC : Kd.C (Kd.int .u64) W A0 l0.length l0) (hl : l0.length ≤ c0) (hq : q ≤ l0.length) (hm : m ≤ l0.length - q) : Kd.C (Kd.int .u64) W (if c0 = q then A0 else A0.map (·.add q)) m ((l0.drop q).take m) := by
  have h1 := Kd.C_drop hC hq hl
  have e1 : (Kd.int IntKind.u64).sz = 1 := rfl
  simp only [e1, Nat.mul_one] at h1
  have h2 := Kd.C_take (m := m) h1 (by rw [List.length_drop]; exact hm)
  rw [List.length_take, List.length_drop, Nat.min_eq_left hm] at h2
  exact h2
set_option maxRecDepth 100000 in
set_option maxHeartbeats 16000000 in
theorem reads_1 (A0 : Option Addr) (c0 : Nat) (l0 : (List Int)) (A1 : Option Addr) (c1 : Nat) (l1 : (List Int)) (w : World) (hl0 : l0.length ≤ c0) (hr0 : Kd.C (Kd.int .u64) w A0 l0.length l0) (hL : ∀ x ∈ l0, 0 ≤ x) (hU : U l0) (hA : ∀ x ∈ l1, x ≤ 9223372036854775807) (hl1 : l1.length ≤ c1) (hr1 : Kd.C (Kd.int .i64) w A1 l1.length l1) (hd0 : decide (60 < (l0.length : Int)) = false) (hd1 : decide (30 < (l1.length : Int)) = false) (b0 : l0.length ≤ 60) (b1 : l1.length ≤ 30) :
    Calls Try.prog 5 #[.slice A0 l0.length c0, .slice A1 l1.length c1] w fun e w' => e = .returned (.bool true) ∧ Below w.heap.size w w' := by
  have HA := Aside0.mk (awake_calls w)
  have HR0 := Aside0.mk hr0
  have HR1 := Aside0.mk hr1
  have B0 := Aside0.mk b0
  have B1 := Aside0.mk b1
  have HL := Aside0.mk hL
  have HUU := Aside0.mk hU
  have HAA := Aside0.mk hA
  have HN : ∀ W : World, Below w.heap.size w W → Aside0 (Calls Try.prog 16 #[.slice A0 l0.length c0] W fun e w' => ∃ g, e = .returned (.pointer (some ⟨g, 0, none⟩)) ∧ Rd w' W.heap.size g l0 false ∧ Below W.heap.size W w') := fun W hW => ⟨new_calls A0 c0 l0 W (Kd.C_below hr0 hW) hl0 (by omega)⟩
  have HNN := Aside0.mk HN
  clear HN
  clear hr0 hr1 b0 b1 hL hU hA
  go_enter Try.func5, Try.ntmps5
  go_wp2_with (first | (go_at_call 6; (with_reducible refine HA.out.mono ?_); rintro e w1 ⟨rfl, hb1⟩) | (go_at_call 16; (with_reducible refine (HNN.out w1 hb1).out.mono ?_); rintro e w2 ⟨g, rfl, hR2, hB2⟩))
  have HR3 : Aside0 (RS w.heap.size g l0 0 false w2) := ⟨⟨0, fun _ => rfl, by rw [List.drop_zero]; exact Rd_lower hR2 hb1.size⟩⟩
  have HB3 := Aside0.mk (hb1.trans (hB2.mono hb1.size))
  clear hR2 hB2 HNN
  go_loopg [6, 7, 32] (l1.length + 1) (fun kq v6 v7 v32 w' => ∃ (j p : Nat) (b : Bool), v6 = .int .i64 (p : Int) ∧ v7 = .bool b ∧ v32 = .int .i64 (j : Int) ∧ Aside0 (j + kq = l1.length + 1 ∧ j ≤ l1.length ∧ p ≤ l0.length) ∧ Aside0 (RS w.heap.size g l0 p b w') ∧ Aside0 (Below w.heap.size w w'))
  case atStart => exact ⟨0, 0, false, rfl, rfl, rfl, ⟨by omega, by omega, by omega⟩, HR3, HB3⟩
  case round =>
    clear HR3 HB3
    obtain ⟨j, p, b, rfl, rfl, rfl, HJ, HR, HB⟩ := hrel
    have hj := HJ.out.2.1
    have hj20 : j ≤ 30 := Nat.le_trans hj B1.out
    have hp := HJ.out.2.2
    have hp60 : p ≤ 60 := Nat.le_trans hp B0.out
    have hl60 : l0.length ≤ 60 := B0.out
    cases gk with
    | zero => exact absurd HJ.out.1 (by omega)
    | succ k1 =>
      by_cases c : j < l1.length
      · have c4b0 : decide ((j : Int) < (l1.length : Int)) = true := decide_eq_true (by omega)
        have p0 : 0 ≤ (j : Int) := by omega
        have q0 : (j : Int) < (l1.length : Int) := by omega
        obtain ⟨ad, rfl, hx⟩ := Kd.at_int HR1.out (j : Int) p0 q0
        rw [Int.toNat_natCast] at hx
        replace hx := (HB.out.cell (World.block_lt_of_cell? w _ hx)).trans hx
        replace p0 := eq_true p0
        replace q0 := eq_true q0
        have hamax := HAA.out _ (rd_mem l1 j c)
        obtain ⟨a, hs⟩ : ∃ a : Int, a = rd l1 (j : Int) := ⟨_, rfl⟩
        rw [← hs] at hx hamax
        clear hs
        by_cases ha : a < 0
        · have d2 : decide (a < 0) = true := decide_eq_true ha
          clear ha
          cases b with
          | true =>
            have HT := Aside0.mk (num_b HR.out)
            go_wp2_with (first | (go_at_call 19; (with_reducible refine HT.out.mono ?_); rintro e w4 ⟨rfl, hR4, hB4⟩) | (go_at_call 20; (with_reducible refine (RS_bad (b := true) hR4).mono ?_); rintro e w5 ⟨rfl, ⟨nd5, rfl⟩⟩) | (go_at_call 21; (with_reducible refine (RS_left0 (RS_drewN hR4 _)).mono ?_); rintro e w6 ⟨rfl, ⟨nd6, rfl⟩⟩))
            go_roundg k1
            case measure => omega
            case rel => exact ⟨j + 1, p, true, by first | rfl | go_num, rfl, by go_num, ⟨by have := HJ.out.1; omega, by omega, by omega⟩, ⟨RS_drewN hR4 _⟩, ⟨pw_below_drewN (by first | exact HB.out.trans hB4 | exact (pw_below_drewN HB.out _).trans hB4) _⟩⟩
          | false =>
            by_cases cp : p < l0.length
            · have c5 : decide ((p : Int) < (l0.length : Int)) = true := decide_eq_true (by omega)
              have p1 : 0 ≤ (p : Int) := by omega
              have q1 : (p : Int) < (l0.length : Int) := by omega
              obtain ⟨ad0, rfl, hy⟩ := Kd.at_int HR0.out (p : Int) p1 q1
              rw [Int.toNat_natCast] at hy
              replace hy := (HB.out.cell (World.block_lt_of_cell? w _ hy)).trans hy
              replace p1 := eq_true p1
              replace q1 := eq_true q1
              obtain ⟨n, hn⟩ := Int.eq_ofNat_of_zero_le (HL.out _ (rd_mem l0 p cp))
              rw [hn] at hy
              have HNN := Aside0.mk hn
              clear hn
              by_cases cn : (n : Int) ≤ 4611686018427387904
              · have d3 : decide ((n : Int) ≤ 4611686018427387904) = true := decide_eq_true cn
                have HT := Aside0.mk (num_k n cp HNN.out cn HR.out)
                have hw : wrap64 (n : Int) = n := wrap64_in (by omega) (by omega)
                clear cn
                have HLF : Aside0 (∀ W : World, RS w.heap.size g l0 (p + 1) false W → Calls Try.prog 21 #[.pointer (some ⟨g, 0, none⟩)] W fun e w' => e = .returned (.int .i64 ((l0.length : Int) - ((p : Int) + 1))) ∧ Drawn0 W w') := ⟨fun W h => RS_left _ (by omega) (by omega) h⟩
                go_wp2_with (first | (go_at_call 19; (with_reducible refine HT.out.mono ?_); rintro e w4 ⟨rfl, hR4, hB4⟩) | (go_at_call 20; (with_reducible refine (RS_bad (b := false) hR4).mono ?_); rintro e w5 ⟨rfl, ⟨nd5, rfl⟩⟩) | (go_at_call 21; (with_reducible refine (HLF.out _ (RS_drewN hR4 _)).mono ?_); rintro e w6 ⟨rfl, ⟨nd6, rfl⟩⟩))
                go_roundg k1
                case measure => omega
                case rel => exact ⟨j + 1, (p + 1), false, by first | rfl | go_num, rfl, by go_num, ⟨by have := HJ.out.1; omega, by omega, by omega⟩, ⟨RS_drewN hR4 _⟩, ⟨pw_below_drewN (by first | exact HB.out.trans hB4 | exact (pw_below_drewN HB.out _).trans hB4) _⟩⟩
              · have d3 : decide ((n : Int) ≤ 4611686018427387904) = false := decide_eq_false cn
                have HT := Aside0.mk (num_g n cp HNN.out cn HR.out)
                clear cn
                go_wp2_with (first | (go_at_call 19; (with_reducible refine HT.out.mono ?_); rintro e w4 ⟨rfl, hR4, hB4⟩) | (go_at_call 20; (with_reducible refine (RS_bad (b := true) hR4).mono ?_); rintro e w5 ⟨rfl, ⟨nd5, rfl⟩⟩) | (go_at_call 21; (with_reducible refine (RS_left0 (RS_drewN hR4 _)).mono ?_); rintro e w6 ⟨rfl, ⟨nd6, rfl⟩⟩))
                go_roundg k1
                case measure => omega
                case rel => exact ⟨j + 1, p, true, by first | rfl | go_num, rfl, by go_num, ⟨by have := HJ.out.1; omega, by omega, by omega⟩, ⟨RS_drewN hR4 _⟩, ⟨pw_below_drewN (by first | exact HB.out.trans hB4 | exact (pw_below_drewN HB.out _).trans hB4) _⟩⟩
            · have c5 : decide ((p : Int) < (l0.length : Int)) = false := decide_eq_false (by omega)
              have HT := Aside0.mk (num_e cp HR.out)
              go_wp2_with (first | (go_at_call 19; (with_reducible refine HT.out.mono ?_); rintro e w4 ⟨rfl, hR4, hB4⟩) | (go_at_call 20; (with_reducible refine (RS_bad (b := true) hR4).mono ?_); rintro e w5 ⟨rfl, ⟨nd5, rfl⟩⟩) | (go_at_call 21; (with_reducible refine (RS_left0 (RS_drewN hR4 _)).mono ?_); rintro e w6 ⟨rfl, ⟨nd6, rfl⟩⟩))
              go_roundg k1
              case measure => omega
              case rel => exact ⟨j + 1, p, true, by first | rfl | go_num, rfl, by go_num, ⟨by have := HJ.out.1; omega, by omega, by omega⟩, ⟨RS_drewN hR4 _⟩, ⟨pw_below_drewN (by first | exact HB.out.trans hB4 | exact (pw_below_drewN HB.out _).trans hB4) _⟩⟩
        · have d2 : decide (a < 0) = false := decide_eq_false ha
          have ha0 : 0 ≤ a := by omega
          clear ha
          cases b with
          | true =>
            have HT := Aside0.mk (text_b a ha0 B0.out HL.out HR.out)
            go_wp2_with (first | (go_at_call 18; (with_reducible refine HT.out.mono ?_); rintro e w4 ⟨rfl, hR4, hB4⟩) | (go_at_call 20; (with_reducible refine (RS_bad (b := true) hR4).mono ?_); rintro e w5 ⟨rfl, ⟨nd5, rfl⟩⟩) | (go_at_call 21; (with_reducible refine (RS_left0 (RS_drewN hR4 _)).mono ?_); rintro e w6 ⟨rfl, ⟨nd6, rfl⟩⟩))
            go_roundg k1
            case measure => omega
            case rel => exact ⟨j + 1, p, true, by first | rfl | go_num, rfl, by go_num, ⟨by have := HJ.out.1; omega, by omega, by omega⟩, ⟨RS_drewN hR4 _⟩, ⟨pw_below_drewN (by first | exact HB.out.trans hB4 | exact (pw_below_drewN HB.out _).trans hB4) _⟩⟩
          | false =>
            by_cases cp : p < l0.length
            · have c5 : decide ((p : Int) < (l0.length : Int)) = true := decide_eq_true (by omega)
              have p1 : 0 ≤ (p : Int) := by omega
              have q1 : (p : Int) < (l0.length : Int) := by omega
              obtain ⟨ad0, rfl, hy⟩ := Kd.at_int HR0.out (p : Int) p1 q1
              rw [Int.toNat_natCast] at hy
              replace hy := (HB.out.cell (World.block_lt_of_cell? w _ hy)).trans hy
              replace p1 := eq_true p1
              replace q1 := eq_true q1
              obtain ⟨n, hn⟩ := Int.eq_ofNat_of_zero_le (HL.out _ (rd_mem l0 p cp))
              rw [hn] at hy
              have HNN := Aside0.mk hn
              clear hn
              by_cases cn : (n : Int) ≤ a
              · have d3 : decide ((n : Int) ≤ a) = true := decide_eq_true cn
                by_cases cm : (n : Int) ≤ 1048576
                · have d4 : decide ((n : Int) ≤ 1048576) = true := decide_eq_true cm
                  have HM := Aside0.mk (need_nat2 n (by omega))
                  obtain ⟨m, hm⟩ : ∃ m : Nat, m = (n + 7) / 8 := ⟨_, rfl⟩
                  rw [← hm] at HM
                  have HME := Aside0.mk hm
                  by_cases cq : p + m < l0.length
                  · have d5 : decide ((m : Int) < (l0.length : Int) - (p : Int)) = true := decide_eq_true (by omega)
                    have hm60 : m ≤ 60 := by omega
                    have HWW : Aside0 (wrap64 (n : Int) = n) := ⟨wrap64_in (by omega) (by omega)⟩
                    obtain ⟨o, is, ho⟩ : ∃ (o : List Int) (is : Bool), unv ((l0.drop (p + 1)).take m) (n : Int) = (o, is) := ⟨_, _, rfl⟩
                    have hlen : ((l0.drop (p + 1)).take m).length = m := by rw [List.length_take, List.length_drop]; omega
                    obtain ⟨ku, hku⟩ := runpack_ev ((l0.drop (p + 1)).take m) (n : Int) (U_cut HUU.out (p + 1) m) (by rw [hlen]; omega) (by have := HME.out; omega) (by omega)
                    have hu := hku ku (Nat.le_refl _)
                    rw [ho] at hu
                    have HU : ∀ (A : Option Addr) (c : Nat) (W : World), m ≤ c → Kd.C (Kd.int .u64) W A m ((l0.drop (p + 1)).take m) → Aside0 (Calls Try.prog 8 #[.slice A m c, .int .i64 (n : Int)] W fun e w' => ∃ v0 : Value, e = .returned (.tuple #[v0, .bool is]) ∧ Kd.R (Kd.int .u8) 5 w' W.heap.size (fun _ => True) v0 o ∧ Below W.heap.size W w') := by
                      intro A c W hc hC
                      have := sumpref01_Unpack.calls ku A c ((l0.drop (p + 1)).take m) (n : Int) o is W (by rw [hlen]; exact hC) (by rw [hlen]; exact hc) hu
                      rw [hlen] at this
                      exact ⟨this⟩
                    have HUA := Aside0.mk HU
                    have HSL : Aside0 (∀ d, Kd.C (Kd.int .u64) (wr.drewN d) (if c0 = p + 1 then some ad0 else (some ad0).map (·.add (p + 1))) m ((l0.drop (p + 1)).take m)) := ⟨fun d => sl_C (Kd.C_drewN (Kd.C_below HR0.out HB.out) d) hl0 (by omega) (by omega)⟩
                    have HTA : Aside0 (∀ W : World, RS w.heap.size g l0 p false W → Calls Try.prog 18 #[.pointer (some ⟨g, 0, none⟩), .int .i64 a] W fun e w' => e = .returned (.string (if is = true then strOfNums o else ⟨#[]⟩)) ∧ RS w.heap.size g l0 (p + (1 + m)) (!is) w' ∧ Below w.heap.size W w') := ⟨fun W h => text_y a n m (p + (1 + m)) o is ha0 B0.out HL.out cp HNN.out cn HME.out (by omega) (by omega) ho h⟩
                    have HLF : Aside0 (∀ W : World, RS w.heap.size g l0 (p + (1 + m)) false W → Calls Try.prog 21 #[.pointer (some ⟨g, 0, none⟩)] W fun e w' => e = .returned (.int .i64 ((l0.length : Int) - ((p : Int) + (1 + (m : Int))))) ∧ Drawn0 W w') := ⟨fun W h => RS_left _ (by omega) (by omega) h⟩
                    have HPM : Aside0 (p + (1 + m) ≤ l0.length) := ⟨by omega⟩
                    have hpm : p + 1 + m ≤ l0.length := by omega
                    clear hu hku HU hlen ho hm cm cn
                    by_cases hcc : c0 = p + 1
                    · have HV : Aside0 (∀ d, Calls Try.prog 8 #[.slice (some ad0) m 0, .int .i64 (n : Int)] (wr.drewN d) fun e w' => ∃ v0 : Value, e = .returned (.tuple #[v0, .bool is]) ∧ Kd.R (Kd.int .u8) 5 w' (wr.drewN d).heap.size (fun _ => True) v0 o ∧ Below (wr.drewN d).heap.size (wr.drewN d) w') := ⟨fun d => (HUA.out (some ad0) 0 (wr.drewN d) (by omega) (by have := HSL.out d; rw [if_pos hcc] at this; exact this)).out⟩
                      clear hpm
                      subst hcc
                      have hw := HWW.out
                      cases is with
                      | false =>
                        go_wp2_with (first | (go_at_call 13; (with_reducible refine (words_Need.calls (n : Int) (m : Int) _ HM.out).mono ?_); rintro e w3 ⟨rfl, ⟨nd3, rfl⟩⟩) | (go_at_call 8; (with_reducible refine (HV.out _).mono ?_); rintro e w6 ⟨v0, rfl, hR, hB6⟩; obtain ⟨Ao, co, rfl⟩ := Kd.R_slice hR; have hst := fun W : World => fun hq : Kd.C (Kd.int .u8) W Ao o.length o => Kd.C_string (P := Try.prog) (A := Ao) (c := co) Try.underlying22 Try.underlying5 Try.underlying9 hq; have hst1 := hst _ (Kd.R_reads' hR).2.2; have HR6 := Aside0.mk (RS_below (RS_drewN HR.out _) hB6); have HB6 := Aside0.mk ((pw_below_drewN HB.out _).trans (hB6.mono HB.out.size)); clear hst hR hB6) | (go_at_call 18; (with_reducible refine (HTA.out _ HR6.out).mono ?_); rintro e w4 ⟨rfl, hR4, hB4⟩; replace hR4 : RS w.heap.size g l0 (p + (1 + m)) true w4 := hR4) | (go_at_call 20; (with_reducible refine (RS_bad (b := true) hR4).mono ?_); rintro e w5 ⟨rfl, ⟨nd5, rfl⟩⟩) | (go_at_call 21; (with_reducible refine (RS_left0 (RS_drewN hR4 _)).mono ?_); rintro e w6 ⟨rfl, ⟨nd6, rfl⟩⟩))
                        go_roundg k1
                        case measure => omega
                        case rel => exact ⟨j + 1, p + (1 + m), true, by go_num, rfl, by go_num, ⟨by have := HJ.out.1; omega, by omega, HPM.out⟩, ⟨RS_drewN hR4 _⟩, ⟨pw_below_drewN (HB6.out.trans hB4) _⟩⟩
                      | true =>
                        go_wp2_with (first | (go_at_call 13; (with_reducible refine (words_Need.calls (n : Int) (m : Int) _ HM.out).mono ?_); rintro e w3 ⟨rfl, ⟨nd3, rfl⟩⟩) | (go_at_call 8; (with_reducible refine (HV.out _).mono ?_); rintro e w6 ⟨v0, rfl, hR, hB6⟩; obtain ⟨Ao, co, rfl⟩ := Kd.R_slice hR; have hst := fun W : World => fun hq : Kd.C (Kd.int .u8) W Ao o.length o => Kd.C_string (P := Try.prog) (A := Ao) (c := co) Try.underlying22 Try.underlying5 Try.underlying9 hq; have hst1 := hst _ (Kd.R_reads' hR).2.2; have HR6 := Aside0.mk (RS_below (RS_drewN HR.out _) hB6); have HB6 := Aside0.mk ((pw_below_drewN HB.out _).trans (hB6.mono HB.out.size)); clear hst hR hB6) | (go_at_call 18; (with_reducible refine (HTA.out _ HR6.out).mono ?_); rintro e w4 ⟨rfl, hR4, hB4⟩; replace hR4 : RS w.heap.size g l0 (p + (1 + m)) false w4 := hR4) | (go_at_call 20; (with_reducible refine (RS_bad (b := false) hR4).mono ?_); rintro e w5 ⟨rfl, ⟨nd5, rfl⟩⟩) | (go_at_call 21; (with_reducible refine (HLF.out _ (RS_drewN hR4 _)).mono ?_); rintro e w6 ⟨rfl, ⟨nd6, rfl⟩⟩))
                        go_roundg k1
                        case measure => omega
                        case rel => exact ⟨j + 1, p + (1 + m), false, by go_num, rfl, by go_num, ⟨by have := HJ.out.1; omega, by omega, HPM.out⟩, ⟨RS_drewN hR4 _⟩, ⟨pw_below_drewN (HB6.out.trans hB4) _⟩⟩
                    · have HV : Aside0 (∀ d, Calls Try.prog 8 #[.slice (some ⟨ad0.block, ad0.off + (p + 1), none⟩) m (c0 - (p + 1)), .int .i64 (n : Int)] (wr.drewN d) fun e w' => ∃ v0 : Value, e = .returned (.tuple #[v0, .bool is]) ∧ Kd.R (Kd.int .u8) 5 w' (wr.drewN d).heap.size (fun _ => True) v0 o ∧ Below (wr.drewN d).heap.size (wr.drewN d) w') := ⟨fun d => (HUA.out (some ⟨ad0.block, ad0.off + (p + 1), none⟩) (c0 - (p + 1)) (wr.drewN d) (by omega) (by have := HSL.out d; rw [if_neg hcc] at this; exact this)).out⟩
                      clear hpm
                      have hw := HWW.out
                      cases is with
                      | false =>
                        go_wp2_with (first | (go_at_call 13; (with_reducible refine (words_Need.calls (n : Int) (m : Int) _ HM.out).mono ?_); rintro e w3 ⟨rfl, ⟨nd3, rfl⟩⟩) | (go_at_call 8; (with_reducible refine (HV.out _).mono ?_); rintro e w6 ⟨v0, rfl, hR, hB6⟩; obtain ⟨Ao, co, rfl⟩ := Kd.R_slice hR; have hst := fun W : World => fun hq : Kd.C (Kd.int .u8) W Ao o.length o => Kd.C_string (P := Try.prog) (A := Ao) (c := co) Try.underlying22 Try.underlying5 Try.underlying9 hq; have hst1 := hst _ (Kd.R_reads' hR).2.2; have HR6 := Aside0.mk (RS_below (RS_drewN HR.out _) hB6); have HB6 := Aside0.mk ((pw_below_drewN HB.out _).trans (hB6.mono HB.out.size)); clear hst hR hB6) | (go_at_call 18; (with_reducible refine (HTA.out _ HR6.out).mono ?_); rintro e w4 ⟨rfl, hR4, hB4⟩; replace hR4 : RS w.heap.size g l0 (p + (1 + m)) true w4 := hR4) | (go_at_call 20; (with_reducible refine (RS_bad (b := true) hR4).mono ?_); rintro e w5 ⟨rfl, ⟨nd5, rfl⟩⟩) | (go_at_call 21; (with_reducible refine (RS_left0 (RS_drewN hR4 _)).mono ?_); rintro e w6 ⟨rfl, ⟨nd6, rfl⟩⟩))
                        go_roundg k1
                        case measure => omega
                        case rel => exact ⟨j + 1, p + (1 + m), true, by go_num, rfl, by go_num, ⟨by have := HJ.out.1; omega, by omega, HPM.out⟩, ⟨RS_drewN hR4 _⟩, ⟨pw_below_drewN (HB6.out.trans hB4) _⟩⟩
                      | true =>
                        go_wp2_with (first | (go_at_call 13; (with_reducible refine (words_Need.calls (n : Int) (m : Int) _ HM.out).mono ?_); rintro e w3 ⟨rfl, ⟨nd3, rfl⟩⟩) | (go_at_call 8; (with_reducible refine (HV.out _).mono ?_); rintro e w6 ⟨v0, rfl, hR, hB6⟩; obtain ⟨Ao, co, rfl⟩ := Kd.R_slice hR; have hst := fun W : World => fun hq : Kd.C (Kd.int .u8) W Ao o.length o => Kd.C_string (P := Try.prog) (A := Ao) (c := co) Try.underlying22 Try.underlying5 Try.underlying9 hq; have hst1 := hst _ (Kd.R_reads' hR).2.2; have HR6 := Aside0.mk (RS_below (RS_drewN HR.out _) hB6); have HB6 := Aside0.mk ((pw_below_drewN HB.out _).trans (hB6.mono HB.out.size)); clear hst hR hB6) | (go_at_call 18; (with_reducible refine (HTA.out _ HR6.out).mono ?_); rintro e w4 ⟨rfl, hR4, hB4⟩; replace hR4 : RS w.heap.size g l0 (p + (1 + m)) false w4 := hR4) | (go_at_call 20; (with_reducible refine (RS_bad (b := false) hR4).mono ?_); rintro e w5 ⟨rfl, ⟨nd5, rfl⟩⟩) | (go_at_call 21; (with_reducible refine (HLF.out _ (RS_drewN hR4 _)).mono ?_); rintro e w6 ⟨rfl, ⟨nd6, rfl⟩⟩))
                        go_roundg k1
                        case measure => omega
                        case rel => exact ⟨j + 1, p + (1 + m), false, by go_num, rfl, by go_num, ⟨by have := HJ.out.1; omega, by omega, HPM.out⟩, ⟨RS_drewN hR4 _⟩, ⟨pw_below_drewN (HB6.out.trans hB4) _⟩⟩
                  · have d5 : decide ((m : Int) < (l0.length : Int) - (p : Int)) = false := decide_eq_false (by omega)
                    have HC : Aside0 (a < (n : Int) ∨ l0.length - (p + 1) < (n + 7) / 8) := ⟨Or.inr (by omega)⟩
                    clear hm
                    go_wp2_with (first | (go_at_call 18; (with_reducible refine (text_n a n ha0 B0.out HL.out cp HNN.out HC.out (RS_drewN HR.out _)).mono ?_); rintro e w4 ⟨rfl, hR4, hB4⟩) | (go_at_call 13; (with_reducible refine (words_Need.calls (n : Int) (m : Int) _ HM.out).mono ?_); rintro e w3 ⟨rfl, ⟨nd3, rfl⟩⟩) | (go_at_call 20; (with_reducible refine (RS_bad (b := true) hR4).mono ?_); rintro e w5 ⟨rfl, ⟨nd5, rfl⟩⟩) | (go_at_call 21; (with_reducible refine (RS_left0 (RS_drewN hR4 _)).mono ?_); rintro e w6 ⟨rfl, ⟨nd6, rfl⟩⟩))
                    go_roundg k1
                    case measure => omega
                    case rel => exact ⟨j + 1, p, true, by first | rfl | go_num, rfl, by go_num, ⟨by have := HJ.out.1; omega, by omega, by omega⟩, ⟨RS_drewN hR4 _⟩, ⟨pw_below_drewN (by first | exact HB.out.trans hB4 | exact (pw_below_drewN HB.out _).trans hB4) _⟩⟩
                · have d4 : decide ((n : Int) ≤ 1048576) = false := decide_eq_false cm
                  have HT := Aside0.mk (text_n a n ha0 B0.out HL.out cp HNN.out (Or.inr (by have := B0.out; omega)) HR.out)
                  clear cm
                  go_wp2_with (first | (go_at_call 18; (with_reducible refine HT.out.mono ?_); rintro e w4 ⟨rfl, hR4, hB4⟩) | (go_at_call 20; (with_reducible refine (RS_bad (b := true) hR4).mono ?_); rintro e w5 ⟨rfl, ⟨nd5, rfl⟩⟩) | (go_at_call 21; (with_reducible refine (RS_left0 (RS_drewN hR4 _)).mono ?_); rintro e w6 ⟨rfl, ⟨nd6, rfl⟩⟩))
                  go_roundg k1
                  case measure => omega
                  case rel => exact ⟨j + 1, p, true, by first | rfl | go_num, rfl, by go_num, ⟨by have := HJ.out.1; omega, by omega, by omega⟩, ⟨RS_drewN hR4 _⟩, ⟨pw_below_drewN (by first | exact HB.out.trans hB4 | exact (pw_below_drewN HB.out _).trans hB4) _⟩⟩
              · have d3 : decide ((n : Int) ≤ a) = false := decide_eq_false cn
                have HT := Aside0.mk (text_n a n ha0 B0.out HL.out cp HNN.out (Or.inl (by omega)) HR.out)
                clear cn
                go_wp2_with (first | (go_at_call 18; (with_reducible refine HT.out.mono ?_); rintro e w4 ⟨rfl, hR4, hB4⟩) | (go_at_call 20; (with_reducible refine (RS_bad (b := true) hR4).mono ?_); rintro e w5 ⟨rfl, ⟨nd5, rfl⟩⟩) | (go_at_call 21; (with_reducible refine (RS_left0 (RS_drewN hR4 _)).mono ?_); rintro e w6 ⟨rfl, ⟨nd6, rfl⟩⟩))
                go_roundg k1
                case measure => omega
                case rel => exact ⟨j + 1, p, true, by first | rfl | go_num, rfl, by go_num, ⟨by have := HJ.out.1; omega, by omega, by omega⟩, ⟨RS_drewN hR4 _⟩, ⟨pw_below_drewN (by first | exact HB.out.trans hB4 | exact (pw_below_drewN HB.out _).trans hB4) _⟩⟩
            · have c5 : decide ((p : Int) < (l0.length : Int)) = false := decide_eq_false (by omega)
              have HT := Aside0.mk (text_e a ha0 B0.out HL.out cp HR.out)
              go_wp2_with (first | (go_at_call 18; (with_reducible refine HT.out.mono ?_); rintro e w4 ⟨rfl, hR4, hB4⟩) | (go_at_call 20; (with_reducible refine (RS_bad (b := true) hR4).mono ?_); rintro e w5 ⟨rfl, ⟨nd5, rfl⟩⟩) | (go_at_call 21; (with_reducible refine (RS_left0 (RS_drewN hR4 _)).mono ?_); rintro e w6 ⟨rfl, ⟨nd6, rfl⟩⟩))
              go_roundg k1
              case measure => omega
              case rel => exact ⟨j + 1, p, true, by first | rfl | go_num, rfl, by go_num, ⟨by have := HJ.out.1; omega, by omega, by omega⟩, ⟨RS_drewN hR4 _⟩, ⟨pw_below_drewN (by first | exact HB.out.trans hB4 | exact (pw_below_drewN HB.out _).trans hB4) _⟩⟩
      · have c4b0 : decide ((j : Int) < (l1.length : Int)) = false := decide_eq_false (by omega)
        clear HR
        go_wp2_with (first | (go_at_call 15; (with_reducible refine (wnum_nil 1 _).mono ?_); rintro e w4 ⟨rfl, ⟨nd4, rfl⟩⟩) | (go_at_call 14; (with_reducible refine (wtext_nil _ _).mono ?_); rintro e w5 ⟨rfl, ⟨nd5, rfl⟩⟩) | (go_at_call 20; (with_reducible refine (bad_nil _).mono ?_); rintro e w6 ⟨rfl, ⟨nd6, rfl⟩⟩) | (go_at_call 19; (with_reducible refine (rnum_none _).mono ?_); rintro e w7 ⟨rfl, ⟨nd7, rfl⟩⟩) | (go_at_call 18; (with_reducible refine (rtext_none _).mono ?_); rintro e w8 ⟨rfl, ⟨nd8, rfl⟩⟩) | (go_at_call 21; (with_reducible refine (left_none _).mono ?_); rintro e w9 ⟨rfl, ⟨nd9, rfl⟩⟩) | (go_at_call 17; (with_reducible refine (wwords_nil _).mono ?_); rintro e w10 ⟨rfl, ⟨nd10, rfl⟩⟩))
        go_ret
        exact ⟨rfl, pw_below_drewN HB.out _⟩
set_option maxRecDepth 100000 in
set_option maxHeartbeats 2000000 in
theorem walkWordsReads (A0 : Option Addr) (c0 : Nat) (l0 : (List Int)) (A1 : Option Addr) (c1 : Nat) (l1 : (List Int)) (w : World) (hl0 : l0.length ≤ c0) (hr0 : Kd.C (Kd.int .u64) w A0 l0.length l0) (g0 : (l0.length ≤ maxLen ∧ ∀ y1 ∈ l0, (Lit.int .u64 y1).wf = true)) (y0 : l0.length * 8 ≤ 140737488351232) (hl1 : l1.length ≤ c1) (hr1 : Kd.C (Kd.int .i64) w A1 l1.length l1) (g1 : (l1.length ≤ maxLen ∧ ∀ y2 ∈ l1, (Lit.int .i64 y2).wf = true)) (y1 : l1.length * 8 ≤ 140737488351232) :
    Calls Try.prog 5 #[.slice A0 l0.length c0, .slice A1 l1.length c1] w fun e w' => e = .returned (.bool true) ∧ Below w.heap.size w w' := by
  have HA := Aside0.mk (awake_calls w)
  by_cases c : (60 : Int) < (l0.length : Int)
  · have hd0 : decide (60 < (l0.length : Int)) = true := decide_eq_true c
    clear hr0 hr1 y0 y1 g0 g1
    go_enter Try.func5, Try.ntmps5
    go_wp2_with (first | (go_at_call 6; (with_reducible refine HA.out.mono ?_); rintro e w1 ⟨rfl, hb1⟩))
    go_ret
    exact ⟨rfl, hb1⟩
  · have hd0 : decide (60 < (l0.length : Int)) = false := decide_eq_false c
    by_cases d : (30 : Int) < (l1.length : Int)
    · have hd1 : decide (30 < (l1.length : Int)) = true := decide_eq_true d
      clear hr0 hr1 y0 y1 g0 g1 c
      go_enter Try.func5, Try.ntmps5
      go_wp2_with (first | (go_at_call 6; (with_reducible refine HA.out.mono ?_); rintro e w1 ⟨rfl, hb1⟩))
      go_ret
      exact ⟨rfl, hb1⟩
    · have u0 : ∀ x ∈ l0, 0 ≤ x ∧ x < 18446744073709551616 := fun x hx => Q.wf_u64 (g0.2 x hx)
      exact reads_1 A0 c0 l0 A1 c1 l1 w hl0 hr0 (fun x hx => (u0 x hx).1) (U_of u0) (fun x hx => by have := (Q.wf_i64 (g1.2 x hx)).2; omega) hl1 hr1 hd0 (decide_eq_false d) (by omega) (by omega)
end Go.Proofs.Ytlojhiacaleokaa.PWD
