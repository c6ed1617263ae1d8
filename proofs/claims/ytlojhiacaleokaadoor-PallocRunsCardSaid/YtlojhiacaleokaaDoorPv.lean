/- palloc: Taken.Use at every page; NewTaken. -/
import Derived.Test.YtlojhiacaleokaaDoorPu
namespace Go.Proofs.YtlojhiacaleokaaDoor.Pa
open Go.RowKit Go.Proofs.YtlojhiacaleokaaDoorW.PrintWords Go.Proofs.YtlojhiacaleokaaDoorW.PrintLast Go.Proofs.YtlojhiacaleokaaDoorW.PrintMore
set_option linter.unusedVariables false
set_option linter.unusedSimpArgs false
theorem TS.use_skip {w : World} {S : Nat → Prop} {t n : Nat} {L : List Nat} (h : TS w S t n L) (i : Int) (hi : i < 1 ∨ (n : Int) < i ∨ hasL L i = true) :
    Calls Tryd.prog 23 #[.pointer (some ⟨t, 0, none⟩), .int .i64 i] w fun e w' => e = .returned (.tuple #[]) ∧ w' = w := by
  obtain ⟨A, c, h1, h2⟩ := h.ex
  have hc0 : w.cell? ⟨t, 0, none⟩ = some (.int .i64 (n : Int)) := blk_cell h1 0
  have hh := h.has i
  by_cases c1 : i < 1
  · have hb1 : decide (i < 1) = true := decide_eq_true c1
    clear h h1 h2 hi c1 hh
    go_enter Tryd.func23, Tryd.ntmps23
    go_wp2
    exact ⟨rfl, .tuple #[], by simp [results, Tryd.results23], rfl, rfl⟩
  · have hb1 : decide (i < 1) = false := decide_eq_false c1
    by_cases c2 : (n : Int) < i
    · have hb2 : decide ((n : Int) < i) = true := decide_eq_true c2
      clear h h1 h2 hi c1 c2 hh
      go_enter Tryd.func23, Tryd.ntmps23
      go_wp2
      exact ⟨rfl, .tuple #[], by simp [results, Tryd.results23], rfl, rfl⟩
    · have hb2 : decide ((n : Int) < i) = false := decide_eq_false c2
      have h3 : hasL L i = true := by
        rcases hi with h | h | h
        · exact absurd h c1
        · exact absurd h c2
        · exact h
      rw [h3] at hh
      clear h h1 h2 hi c1 c2 h3
      go_enter Tryd.func23, Tryd.ntmps23
      go_wp2_with (first | (go_at_call 16; (with_reducible refine hh.mono ?_); rintro e w1 ⟨rfl, hw1⟩; subst w1))
      exact ⟨rfl, .tuple #[], by simp [results, Tryd.results23], rfl, rfl⟩
theorem TS.use {w : World} {S : Nat → Prop} {t n : Nat} {L : List Nat} (h : TS w S t n L) (hS : ∀ k, S k → k < w.heap.size) (i : Int) :
    Calls Tryd.prog 23 #[.pointer (some ⟨t, 0, none⟩), .int .i64 i] w fun e w' => e = .returned (.tuple #[]) ∧ TS w' S t n (useL n L i) ∧ Fr t t w w' := by
  by_cases c : 1 ≤ i ∧ i ≤ (n : Int) ∧ i.toNat ∉ L
  · obtain ⟨c1, c2, c3⟩ := c
    have e : useL n L i = insL L i.toNat := by unfold useL; rw [if_pos ⟨c1, c2, c3⟩]
    rw [e]
    obtain ⟨m, rfl⟩ := Int.eq_ofNat_of_zero_le (show 0 ≤ i by omega)
    rw [Int.toNat_natCast] at c3 ⊢
    exact h.use_new hS m (by omega) (by omega) c3
  · have e : useL n L i = L := by unfold useL; rw [if_neg c]
    rw [e]
    refine (h.use_skip i ?_).mono ?_
    · by_cases c1 : i < 1
      · exact Or.inl c1
      · by_cases c2 : (n : Int) < i
        · exact Or.inr (Or.inl c2)
        · right; right
          unfold hasL
          rw [decide_eq_true_iff]
          exact Classical.byContradiction fun hc => c ⟨by omega, by omega, hc⟩
    · rintro e w' ⟨rfl, rfl⟩
      exact ⟨rfl, h, Fr.refl _ _ _⟩
def cl (n : Int) : Nat := (min (max n 0) 1048576).toNat
theorem cl_le (n : Int) : cl n ≤ 1048576 := by unfold cl; omega
def newL (N : Nat) (l : List Int) : List Nat := l.foldl (useL N) []
theorem newL_snoc (N : Nat) (l : List Int) (j : Nat) (h : j < l.length) : newL N (l.take (j + 1)) = useL N (newL N (l.take j)) (rd l (j : Int)) := by
  rw [List.take_succ_eq_append_getElem h]
  unfold newL
  rw [List.foldl_append]
  simp [rd, List.getD_eq_getElem?_getD, h]
theorem TS0 (w : World) (S : Nat → Prop) (N : Nat) (V : Int) (hV : V = (N : Int)) (hS : ∀ k, S k → k ≤ w.heap.size) (hSt : S w.heap.size) (hN : N ≤ 1048576) : TS (w.alloc (.cells #[.int .i64 V, .slice none 0 0] 38)) S w.heap.size N [] := by
  subst hV
  exact ⟨⟨none, 0, blk_new w _, Nat.le_refl _, Kd.C_nil _ _, fun ad h => (by cases h), fun _ => rfl⟩, hSt, List.Pairwise.nil, fun i hi => by simp at hi, hN⟩
set_option maxHeartbeats 2000000 in
theorem newTaken (A0 : Option Addr) (c0 : Nat) (l0 : List Int) (w : World) (hr0 : Kd.C (Kd.int .i64) w A0 l0.length l0) (hl : l0.length ≤ 1000) (n : Int) (S : Nat → Prop) (hS : ∀ k, S k → k ≤ w.heap.size) (hSt : S w.heap.size) :
    Calls Tryd.prog 12 #[.int .i64 n, .slice A0 l0.length c0] w fun e w' => e = .returned (.pointer (some ⟨w.heap.size, 0, none⟩)) ∧ TS w' S w.heap.size (cl n) (newL (cl n) l0) ∧ Below w.heap.size w w' := by
  have HR := hid hr0
  have HL := hid hl
  have HS := hid hS
  have HSt := hid hSt
  clear hr0 hl hS hSt
  obtain ⟨N, hN⟩ : ∃ N, cl n = N := ⟨_, rfl⟩
  have HN := hid hN
  clear hN
  by_cases c1 : n < 0
  · have hb1 : decide (n < 0) = true := decide_eq_true c1
    have HT0 := hid (TS0 w S N 0 (by have := HN.out; unfold cl at this; omega) HS.out HSt.out (by have := cl_le n; have := HN.out; omega))
    have HB0 := hid (below_alloc (Below.refl w.heap.size w) (.cells #[.int .i64 0, .slice none 0 0] 38))
    go_enter Tryd.func12, Tryd.ntmps12
    go_wp2
    go_loopg [17] (l0.length + 1) (fun kq v17 w' => ∃ j : Nat, v17 = .int .i64 (j : Int) ∧ Hid (j + kq = l0.length + 1 ∧ j ≤ l0.length) ∧ Hid (TS w' S w.heap.size N (newL N (l0.take j))) ∧ Hid (Below w.heap.size w w'))
    case atStart => exact ⟨0, rfl, hid ⟨by omega, by omega⟩, HT0, HB0⟩
    case round =>
      obtain ⟨j, rfl, HJ, HT, HB⟩ := hrel
      have hj := HJ.out.2
      cases gk with
      | zero => exact absurd HJ.out.1 (by omega)
      | succ k1 =>
        by_cases cj : j < l0.length
        · have c4b0 : decide (j < l0.length) = true := decide_eq_true cj
          obtain ⟨ad, rfl, hx⟩ := Kd.at_int (Kd.C_below HR.out HB.out) (j : Int) (by omega) (by omega)
          rw [Int.toNat_natCast] at hx
          have p0 : (0 ≤ (j : Int)) = True := eq_true (by omega)
          have q0 : ((j : Int) < (l0.length : Int)) = True := eq_true (by omega)
          have HW : Hid (wrap64 ((j : Int) + 1) = ((j + 1 : Nat) : Int)) := by
            have := HL.out
            refine hid ?_
            rw [wrap_small _ (by omega) (by omega)]; rfl
          have hsn := newL_snoc N l0 j cj
          obtain ⟨x, hxe⟩ : ∃ x, rd l0 (j : Int) = x := ⟨_, rfl⟩
          rw [hxe] at hx hsn
          have HSN := hid hsn
          clear hxe hsn
          have hus := HT.out.use (fun k hk => by have := HS.out k hk; have := HT.out.lt; omega) x
          go_wp2_with (first | (go_at_call 23; (with_reducible refine hus.mono ?_); rintro e w2 ⟨rfl, hT2, hF2⟩; have HT2 := hid hT2; have HF2 := hid hF2; clear hT2 hF2))
          go_roundg k1
          case measure => omega
          case rel =>
            refine ⟨j + 1, congrArg (Value.int .i64) HW.out, hid ⟨by have := HJ.out.1; omega, by omega⟩, hid ?_, hid (HB.out.trans (HF2.out.below HB.out.size (Nat.le_refl _) (Nat.le_refl _)))⟩
            rw [HSN.out]; exact HT2.out
        · have c4b0 : decide (j < l0.length) = false := decide_eq_false cj
          have HE : Hid (l0.take j = l0) := hid (List.take_of_length_le (by omega))
          go_wp2
          go_ret
          refine ⟨rfl, ?_, HB.out⟩
          have h9 := HT.out
          rw [HE.out] at h9
          rw [HN.out]
          exact h9
  · have hb1 : decide (n < 0) = false := decide_eq_false c1
    by_cases c2 : 1048576 < n
    · have hb2 : decide (1048576 < n) = true := decide_eq_true c2
      have HT0 := hid (TS0 w S N 1048576 (by have := HN.out; unfold cl at this; omega) HS.out HSt.out (by have := cl_le n; have := HN.out; omega))
      have HB0 := hid (below_alloc (Below.refl w.heap.size w) (.cells #[.int .i64 1048576, .slice none 0 0] 38))
      go_enter Tryd.func12, Tryd.ntmps12
      go_wp2
      go_loopg [17] (l0.length + 1) (fun kq v17 w' => ∃ j : Nat, v17 = .int .i64 (j : Int) ∧ Hid (j + kq = l0.length + 1 ∧ j ≤ l0.length) ∧ Hid (TS w' S w.heap.size N (newL N (l0.take j))) ∧ Hid (Below w.heap.size w w'))
      case atStart => exact ⟨0, rfl, hid ⟨by omega, by omega⟩, HT0, HB0⟩
      case round =>
        obtain ⟨j, rfl, HJ, HT, HB⟩ := hrel
        have hj := HJ.out.2
        cases gk with
        | zero => exact absurd HJ.out.1 (by omega)
        | succ k1 =>
          by_cases cj : j < l0.length
          · have c4b0 : decide (j < l0.length) = true := decide_eq_true cj
            obtain ⟨ad, rfl, hx⟩ := Kd.at_int (Kd.C_below HR.out HB.out) (j : Int) (by omega) (by omega)
            rw [Int.toNat_natCast] at hx
            have p0 : (0 ≤ (j : Int)) = True := eq_true (by omega)
            have q0 : ((j : Int) < (l0.length : Int)) = True := eq_true (by omega)
            have HW : Hid (wrap64 ((j : Int) + 1) = ((j + 1 : Nat) : Int)) := by
              have := HL.out
              refine hid ?_
              rw [wrap_small _ (by omega) (by omega)]; rfl
            have hsn := newL_snoc N l0 j cj
            obtain ⟨x, hxe⟩ : ∃ x, rd l0 (j : Int) = x := ⟨_, rfl⟩
            rw [hxe] at hx hsn
            have HSN := hid hsn
            clear hxe hsn
            have hus := HT.out.use (fun k hk => by have := HS.out k hk; have := HT.out.lt; omega) x
            go_wp2_with (first | (go_at_call 23; (with_reducible refine hus.mono ?_); rintro e w2 ⟨rfl, hT2, hF2⟩; have HT2 := hid hT2; have HF2 := hid hF2; clear hT2 hF2))
            go_roundg k1
            case measure => omega
            case rel =>
              refine ⟨j + 1, congrArg (Value.int .i64) HW.out, hid ⟨by have := HJ.out.1; omega, by omega⟩, hid ?_, hid (HB.out.trans (HF2.out.below HB.out.size (Nat.le_refl _) (Nat.le_refl _)))⟩
              rw [HSN.out]; exact HT2.out
          · have c4b0 : decide (j < l0.length) = false := decide_eq_false cj
            have HE : Hid (l0.take j = l0) := hid (List.take_of_length_le (by omega))
            go_wp2
            go_ret
            refine ⟨rfl, ?_, HB.out⟩
            have h9 := HT.out
            rw [HE.out] at h9
            rw [HN.out]
            exact h9
    · have hb2 : decide (1048576 < n) = false := decide_eq_false c2
      have HT0 := hid (TS0 w S N n (by have := HN.out; unfold cl at this; omega) HS.out HSt.out (by have := cl_le n; have := HN.out; omega))
      have HB0 := hid (below_alloc (Below.refl w.heap.size w) (.cells #[.int .i64 n, .slice none 0 0] 38))
      go_enter Tryd.func12, Tryd.ntmps12
      go_wp2
      go_loopg [17] (l0.length + 1) (fun kq v17 w' => ∃ j : Nat, v17 = .int .i64 (j : Int) ∧ Hid (j + kq = l0.length + 1 ∧ j ≤ l0.length) ∧ Hid (TS w' S w.heap.size N (newL N (l0.take j))) ∧ Hid (Below w.heap.size w w'))
      case atStart => exact ⟨0, rfl, hid ⟨by omega, by omega⟩, HT0, HB0⟩
      case round =>
        obtain ⟨j, rfl, HJ, HT, HB⟩ := hrel
        have hj := HJ.out.2
        cases gk with
        | zero => exact absurd HJ.out.1 (by omega)
        | succ k1 =>
          by_cases cj : j < l0.length
          · have c4b0 : decide (j < l0.length) = true := decide_eq_true cj
            obtain ⟨ad, rfl, hx⟩ := Kd.at_int (Kd.C_below HR.out HB.out) (j : Int) (by omega) (by omega)
            rw [Int.toNat_natCast] at hx
            have p0 : (0 ≤ (j : Int)) = True := eq_true (by omega)
            have q0 : ((j : Int) < (l0.length : Int)) = True := eq_true (by omega)
            have HW : Hid (wrap64 ((j : Int) + 1) = ((j + 1 : Nat) : Int)) := by
              have := HL.out
              refine hid ?_
              rw [wrap_small _ (by omega) (by omega)]; rfl
            have hsn := newL_snoc N l0 j cj
            obtain ⟨x, hxe⟩ : ∃ x, rd l0 (j : Int) = x := ⟨_, rfl⟩
            rw [hxe] at hx hsn
            have HSN := hid hsn
            clear hxe hsn
            have hus := HT.out.use (fun k hk => by have := HS.out k hk; have := HT.out.lt; omega) x
            go_wp2_with (first | (go_at_call 23; (with_reducible refine hus.mono ?_); rintro e w2 ⟨rfl, hT2, hF2⟩; have HT2 := hid hT2; have HF2 := hid hF2; clear hT2 hF2))
            go_roundg k1
            case measure => omega
            case rel =>
              refine ⟨j + 1, congrArg (Value.int .i64) HW.out, hid ⟨by have := HJ.out.1; omega, by omega⟩, hid ?_, hid (HB.out.trans (HF2.out.below HB.out.size (Nat.le_refl _) (Nat.le_refl _)))⟩
              rw [HSN.out]; exact HT2.out
          · have c4b0 : decide (j < l0.length) = false := decide_eq_false cj
            have HE : Hid (l0.take j = l0) := hid (List.take_of_length_le (by omega))
            go_wp2
            go_ret
            refine ⟨rfl, ?_, HB.out⟩
            have h9 := HT.out
            rw [HE.out] at h9
            rw [HN.out]
            exact h9
end Go.Proofs.YtlojhiacaleokaaDoor.Pa
