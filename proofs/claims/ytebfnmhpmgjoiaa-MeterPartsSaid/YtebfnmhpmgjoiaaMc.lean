/- the meter: Boxes, the reference's Boxes, SameInts, awake. -/
import Derived.Test.YtebfnmhpmgjoiaaMb
import Derived.Deep.OwnRows
namespace Go.Proofs.Ytebfnmhpmgjoiaa.Fl
open Go.RowKit FT SM Go.Proofs.YtebfnmhpmgjoiaaW.PrintWords Go.Proofs.YtebfnmhpmgjoiaaW.PrintMore
set_option linter.unusedVariables false
set_option linter.unusedSimpArgs false
theorem sort_calls (A : Option Addr) (l : List Nat) (c : Nat) (w : World) (hv : Vw w A l) (hl : l.length ≤ 40) : Calls Try.prog 26 #[.slice A l.length c] w fun e w' => ∃ A' c' M, e = .returned (.slice A' M.length c') ∧ Vw w' A' M ∧ M.Perm l ∧ Sd less M ∧ Below w.heap.size w w' := by
  by_cases h0 : l.length = 0
  · have : l = [] := List.eq_nil_of_length_eq_zero h0
    subst this
    refine (sort_nil A c w).mono ?_
    rintro e w' ⟨A', c', h1, h2⟩
    exact ⟨A', c', [], h1, ⟨fun ad _ j x hj => (by cases hj), fun _ => rfl⟩, List.Perm.refl _, Sd_nil _, h2⟩
  · cases A with
    | none => exact absurd (hv.nil rfl) (by rintro rfl; exact h0 rfl)
    | some ad =>
      refine (sort_some ad l c w (hv.at' ad rfl) (by omega) hl).mono ?_
      rintro e w' ⟨g, cap, Z, M, h1, h2, h3, h4, h5⟩
      exact ⟨some ⟨g, 0, none⟩, cap, M, by rw [h1, h3.length_eq], ⟨fun ad ha => by injection ha with ha; subst ha; exact At.of_cells (Z := Z) h2, fun h => by cases h⟩, h3, h4, h5⟩
theorem sortedR_calls (A : Option Addr) (l : List Nat) (c : Nat) (w : World) (hv : Vw w A l) (hl : l.length ≤ 40) : Calls Try.prog 22 #[.slice A l.length c] w fun e w' => ∃ A' c' M, e = .returned (.slice A' M.length c') ∧ Vw w' A' M ∧ M.Perm l ∧ Sd less M ∧ Below w.heap.size w w' := by
  by_cases h0 : l.length = 0
  · have : l = [] := List.eq_nil_of_length_eq_zero h0
    subst this
    refine (sorted_nil A c w).mono ?_
    rintro e w' ⟨h1, rfl⟩
    exact ⟨none, 0, [], h1, ⟨fun ad _ j x hj => (by cases hj), fun _ => rfl⟩, List.Perm.refl _, Sd_nil _, Below.refl _ _⟩
  · cases A with
    | none => exact absurd (hv.nil rfl) (by rintro rfl; exact h0 rfl)
    | some ad =>
      refine (sorted_calls ad l c w (hv.at' ad rfl) (by omega)).mono ?_
      rintro e w' ⟨A', c', L, h1, h2, h3, h4, h5⟩
      exact ⟨A', c', L, h1, ⟨h2.cells, fun h => (h2.nil h).1⟩, h3, h4, h5⟩
theorem info3 : (Try.prog.info? 3).map (fun i => (i.zero, i.size, i.bytes)) = some (some (.int .i64 0), 1, 8) := by kernel_rfl
theorem mk37 (m : Nat) (hm : m ≤ 20000) (w : World) : (Instr.makeSlice 37 (.int .i64 (m : Int)) (.int .i64 (m : Int))).run Try.prog w = .ok (.slice (some ⟨w.heap.size, 0, none⟩) m m) (w.alloc (.cells (Array.replicate m (.int .i64 0)) 3)) := by
  have h := run_make_row' (P := Try.prog) 37 3 (.int .i64 0) 8 Try.underlying37 info3 rfl .i64 .i64 m (by omega) (by omega) w
  rw [h]
  congr 3
  apply Array.ext
  · simp [madeCells]
  · intro i h1 h2
    simp [madeCells, Nat.mod_one]
theorem ri_new (w : World) (m : Nat) (q : Nat → Nat) : Ri (w.alloc (.cells (Array.replicate m (.int .i64 0)) 3)) w.heap.size 3 (cnts m q []) := by
  rw [cnts_nil]
  unfold Ri
  rw [blk_new]
  congr 2
  simp [I]
set_option maxHeartbeats 4000000 in
theorem boxes_calls (A B : Option Addr) (l ed : List Nat) (c cb : Nat) (w : World) (hv : Vw w A l) (he : Vw w B ed) (hl : l.length ≤ 40) (hel : ed.length ≤ 40) : Calls Try.prog 29 #[.slice A l.length c, .slice B ed.length cb] w fun e w' => ∃ g M, e = .returned (.slice (some ⟨g, 0, none⟩) (M.length + 1) (M.length + 1)) ∧ M.Perm ed ∧ Sd less M ∧ Ri w' g 3 (cnts (M.length + 1) (bx M) l) ∧ w.heap.size ≤ g ∧ Below w.heap.size w w' := by
  obtain ⟨n, hn⟩ : ∃ n, l.length = n := ⟨_, rfl⟩
  have HN := hid (show l.length = n ∧ n ≤ 40 from ⟨hn, by omega⟩)
  have HV := hid hv
  have HS : Hid (Calls Try.prog 26 #[.slice B ed.length cb] w fun e w' => ∃ (A' : Option Addr) (c' : Nat) (M : List Nat) (m : Nat) (MI : Int), e = .returned (.slice A' M.length c') ∧ wrap64 ((M.length : Int) + 1) = MI ∧ (∀ w, (Instr.makeSlice 37 (.int .i64 MI) (.int .i64 MI)).run Try.prog w = .ok (.slice (some ⟨w.heap.size, 0, none⟩) m m) (w.alloc (.cells (Array.replicate m (.int .i64 0)) 3))) ∧ Hid (M.length + 1 = m ∧ m ≤ 41) ∧ Hid (Vw w' A' M ∧ M.Perm ed ∧ Sd less M) ∧ Hid (Below w.heap.size w w')) := hid ((sort_calls B ed cb w he hel).mono (by
    rintro e w' ⟨A', c', M, h1, h2, h3, h4, h5⟩
    have hle := h3.length_eq
    refine ⟨A', c', M, M.length + 1, ((M.length + 1 : Nat) : Int), h1, ?_, mk37 _ (by omega), hid ⟨rfl, by omega⟩, hid ⟨h2, h3, h4⟩, hid h5⟩
    rw [wrap_small _ (by omega) (by omega)]; rfl))
  rw [hn]
  clear hv he hl hn hel
  go_enter Try.func29, Try.ntmps29
  go_wp2_with (first | (go_at_call 26; (with_reducible refine HS.out.mono ?_); rintro e1 wS ⟨B', cb', M, m, MI, rfl, hw0, hmk, HM, HP, HBS⟩))
  clear hw0
  go_loopg [17] (n + 1) (fun kq v17 w' => ∃ i : Nat, v17 = .int .i64 (i : Int) ∧ Hid (i + kq = n + 1 ∧ i ≤ n) ∧ Hid (Ri w' wS.heap.size 3 (cnts m (bx M) (l.take i))) ∧ Hid (Below wS.heap.size wS w'))
  case atStart => exact ⟨0, rfl, hid ⟨by omega, by omega⟩, hid (ri_new wS m (bx M)), hid (below_alloc (Below.refl _ _) _)⟩
  case round =>
    obtain ⟨i, rfl, HK, H1, HB⟩ := hrel
    cases gk with
    | zero => exact absurd HK.out.1 (by have := HK.out; omega)
    | succ k1 =>
      obtain ⟨II, hII⟩ : ∃ II : Int, (i : Int) = II := ⟨_, rfl⟩
      rw [hII]
      by_cases ci : i < n
      · have b1 : decide (II < (n : Int)) = true := decide_eq_true (by omega)
        obtain ⟨y, hy⟩ : ∃ y, l[i]? = some y := ⟨_, List.getElem?_eq_getElem (by have := HN.out; omega)⟩
        cases A with
        | none => exact absurd (HV.out.nil rfl) (by rintro rfl; cases hy)
        | some ad =>
          have c1 := ((HV.out.below HBS.out).below HB.out).at' ad rfl i y hy
          have t1 : II.toNat = i := by omega
          have p1 : 0 ≤ II := by omega
          have p2 : II < (n : Int) := by omega
          have HCI : Hid (i + 1 ≤ n) := hid ci
          have HW1 : Hid (wrap64 (II + 1) = ((i + 1 : Nat) : Int)) := hid (by have := HN.out; rw [wrap_small _ (by omega) (by omega)]; omega)
          obtain ⟨k, hk⟩ : ∃ k, bx M y = k := ⟨_, rfl⟩
          have hkm : k < m := by have := bx_le M y; have := HM.out; omega
          obtain ⟨d, hd⟩ : ∃ d, cnts m (bx M) (l.take i) = d := ⟨_, rfl⟩
          have hst : d.set k (d.getD k 0 + 1) = cnts m (bx M) (l.take (i + 1)) := by rw [← hd]; exact cnts_step m (bx M) l i y k hy hk hkm
          have hle : 0 ≤ d.getD k 0 ∧ d.getD k 0 ≤ (n : Int) := by
            rw [← hd]
            have h1 := cnts_le m (bx M) (l.take i) k hkm
            have h2 := List.length_take_le' i l
            have := HN.out
            omega
          have hlen : d.length = m := by rw [← hd]; exact cnts_len _ _ _
          rw [hd] at H1
          obtain ⟨q, hq⟩ : ∃ q, d.getD k 0 = q := ⟨_, rfl⟩
          have c2 := H1.out.cell k (by omega)
          have f2 := H1.out.frozen k
          rw [hq] at c2 hst hle
          have HST := hid hst
          have w2 : wrap64 (q + 1) = q + 1 := by have := HN.out; exact wrap_small _ (by omega) (by omega)
          have hbc := box_calls B' M cb' y wr (HP.out.1.below HB.out) (by have := HM.out; omega)
          rw [hk] at hbc
          obtain ⟨KI, hKI⟩ : ∃ KI : Int, (k : Int) = KI := ⟨_, rfl⟩
          rw [hKI] at hbc
          have HBC := hid hbc
          have t2 : KI.toNat = k := by omega
          have p3 : 0 ≤ KI := by omega
          have p4 : KI < (m : Int) := by omega
          clear hy hII ci hk hkm hst hle hlen hq hKI hbc hd
          go_wp2_with (first | (go_at_call 44; with_reducible refine HBC.out.mono ?_; rintro e w1 ⟨rfl, rfl⟩))
          go_roundg k1
          case measure => omega
          case rel => exact ⟨i + 1, congrArg (Value.int .i64) HW1.out, hid ⟨by have := HK.out; omega, HCI.out⟩, hid (by have h := H1.out.set k (q + 1); rw [HST.out] at h; exact h), hid (HB.out.setCell (Nat.le_refl _) _)⟩
      · have b1 : decide (II < (n : Int)) = false := decide_eq_false (by omega)
        have HE : Hid (l.take i = l) := hid (List.take_of_length_le (by have := HN.out; have := HK.out; omega))
        rw [HE.out] at H1
        clear hII ci
        go_wp2
        go_ret
        obtain ⟨h1, h2⟩ := HM.out
        subst h1
        exact ⟨wS.heap.size, M, rfl, HP.out.2.1, HP.out.2.2, H1.out, HBS.out.size, HBS.out.trans (HB.out.mono HBS.out.size)⟩
set_option maxHeartbeats 4000000 in
theorem rboxes_calls (A B : Option Addr) (l ed : List Nat) (c cb : Nat) (w : World) (hv : Vw w A l) (he : Vw w B ed) (hl : l.length ≤ 40) (hel : ed.length ≤ 40) : Calls Try.prog 33 #[.slice A l.length c, .slice B ed.length cb] w fun e w' => ∃ g M, e = .returned (.slice (some ⟨g, 0, none⟩) (M.length + 1) (M.length + 1)) ∧ M.Perm ed ∧ Sd less M ∧ Ri w' g 3 (cnts (M.length + 1) (bx M) l) ∧ w.heap.size ≤ g ∧ Below w.heap.size w w' := by
  obtain ⟨n, hn⟩ : ∃ n, l.length = n := ⟨_, rfl⟩
  have HN := hid (show l.length = n ∧ n ≤ 40 from ⟨hn, by omega⟩)
  have HV := hid hv
  have HS : Hid (Calls Try.prog 22 #[.slice B ed.length cb] w fun e w' => ∃ (A' : Option Addr) (c' : Nat) (M : List Nat) (m : Nat) (MI : Int), e = .returned (.slice A' M.length c') ∧ wrap64 ((M.length : Int) + 1) = MI ∧ (∀ w, (Instr.makeSlice 37 (.int .i64 MI) (.int .i64 MI)).run Try.prog w = .ok (.slice (some ⟨w.heap.size, 0, none⟩) m m) (w.alloc (.cells (Array.replicate m (.int .i64 0)) 3))) ∧ Hid (M.length + 1 = m ∧ m ≤ 41) ∧ Hid (Vw w' A' M ∧ M.Perm ed ∧ Sd less M) ∧ Hid (Below w.heap.size w w')) := hid ((sortedR_calls B ed cb w he hel).mono (by
    rintro e w' ⟨A', c', M, h1, h2, h3, h4, h5⟩
    have hle := h3.length_eq
    refine ⟨A', c', M, M.length + 1, ((M.length + 1 : Nat) : Int), h1, ?_, mk37 _ (by omega), hid ⟨rfl, by omega⟩, hid ⟨h2, h3, h4⟩, hid h5⟩
    rw [wrap_small _ (by omega) (by omega)]; rfl))
  rw [hn]
  clear hv he hl hn hel
  go_enter Try.func33, Try.ntmps33
  go_wp2_with (first | (go_at_call 22; (with_reducible refine HS.out.mono ?_); rintro e1 wS ⟨B', cb', M, m, MI, rfl, hw0, hmk, HM, HP, HBS⟩))
  clear hw0
  go_loopg [18] (n + 1) (fun kq v18 w' => ∃ i : Nat, v18 = .int .i64 (i : Int) ∧ Hid (i + kq = n + 1 ∧ i ≤ n) ∧ Hid (Ri w' wS.heap.size 3 (cnts m (bx M) (l.take i))) ∧ Hid (Below wS.heap.size wS w'))
  case atStart => exact ⟨0, rfl, hid ⟨by omega, by omega⟩, hid (ri_new wS m (bx M)), hid (below_alloc (Below.refl _ _) _)⟩
  case round =>
    obtain ⟨i, rfl, HK, H1, HB⟩ := hrel
    cases gk with
    | zero => exact absurd HK.out.1 (by have := HK.out; omega)
    | succ k1 =>
      obtain ⟨II, hII⟩ : ∃ II : Int, (i : Int) = II := ⟨_, rfl⟩
      rw [hII]
      by_cases ci : i < n
      · have b1 : decide (II < (n : Int)) = true := decide_eq_true (by omega)
        obtain ⟨y, hy⟩ : ∃ y, l[i]? = some y := ⟨_, List.getElem?_eq_getElem (by have := HN.out; omega)⟩
        cases A with
        | none => exact absurd (HV.out.nil rfl) (by rintro rfl; cases hy)
        | some ad =>
          have c1 := ((HV.out.below HBS.out).below HB.out).at' ad rfl i y hy
          have t1 : II.toNat = i := by omega
          have p1 : 0 ≤ II := by omega
          have p2 : II < (n : Int) := by omega
          have HCI : Hid (i + 1 ≤ n) := hid ci
          have HW1 : Hid (wrap64 (II + 1) = ((i + 1 : Nat) : Int)) := hid (by have := HN.out; rw [wrap_small _ (by omega) (by omega)]; omega)
          have HV2 := hid (HP.out.1.below HB.out)
          have HY := hid hy
          clear hy hII ci
          have fin : ∀ k, bx M y = k → ∃ (KI q : Int), (k : Int) = KI ∧ KI.toNat = k ∧ 0 ≤ KI ∧ KI < (m : Int) ∧ wrap64 (q + 1) = q + 1 ∧ wr.cell? ⟨wS.heap.size, k, none⟩ = some (.int .i64 q) ∧ wr.frozen? ⟨wS.heap.size, k, none⟩ = false ∧ Hid (Ri (wr.setCell ⟨wS.heap.size, k, none⟩ (.int .i64 (q + 1))) wS.heap.size 3 (cnts m (bx M) (l.take (i + 1)))) := by
            intro k hk
            have hkm : k < m := by have := bx_le M y; have := HM.out; omega
            have hle := cnts_le m (bx M) (l.take i) k hkm
            have h2 := List.length_take_le' i l
            have hN := HN.out
            refine ⟨(k : Int), (cnts m (bx M) (l.take i)).getD k 0, rfl, by omega, by omega, by omega, wrap_small _ (by omega) (by omega), H1.out.cell k (by rw [cnts_len]; exact hkm), H1.out.frozen k, hid ?_⟩
            rw [← cnts_step m (bx M) l i y k HY.out hk hkm]
            exact H1.out.set k _
          have FIN := hid fin
          clear fin
          go_wp2
          go_loopg [9] (M.length + 1) (fun kq v9 w' => ∃ k : Nat, v9 = .int .i64 (k : Int) ∧ Hid (k + kq = M.length + 1 ∧ k ≤ M.length ∧ ∀ j z, j < k → M[j]? = some z → less y z = false) ∧ w' = wr)
          case atStart => exact ⟨0, rfl, hid ⟨by omega, by omega, fun j z hj => by omega⟩, rfl⟩
          case round =>
            obtain ⟨k, rfl, HKk, hw⟩ := hrel
            cases gk with
            | zero => exact absurd HKk.out.1 (by have := HKk.out; omega)
            | succ k2 =>
              by_cases ck : k < M.length
              · obtain ⟨z, hz⟩ : ∃ z, M[k]? = some z := ⟨_, List.getElem?_eq_getElem ck⟩
                cases B' with
                | none => exact absurd (HV2.out.nil rfl) (by rintro rfl; cases hz)
                | some bd =>
                  have c3 := HV2.out.at' bd rfl k z hz
                  rw [← hw] at c3
                  have b2 : decide ((k : Int) < (M.length : Int)) = true := decide_eq_true (by omega)
                  have p6 : (k : Int) < (M.length : Int) := by omega
                  have p5 : (0 : Int) ≤ (k : Int) := Int.natCast_nonneg k
                  have HZ := hid hz
                  have HCK := hid ck
                  have HW2 : Hid (wrap64 ((k : Int) + 1) = ((k + 1 : Nat) : Int)) := hid (by have := HM.out; rw [wrap_small _ (by omega) (by omega)]; rfl)
                  cases hc : less y z with
                  | false =>
                    have HC := hid hc
                    have HW := hid hw
                    clear hc hz ck hw
                    go_wp2_with (first | (go_at_call 15; with_reducible refine (rless_calls y z _ _ HC.out).mono ?_; rintro e w1 ⟨rfl, rfl⟩))
                    go_roundg k2
                    case measure => omega
                    case rel => exact ⟨k + 1, congrArg (Value.int .i64) HW2.out, hid ⟨by have := HKk.out; omega, HCK.out, fun j x hj hx => by
                      rcases Nat.lt_or_ge j k with h | h
                      · exact HKk.out.2.2 j x h hx
                      · obtain rfl : j = k := by omega
                        rw [HZ.out] at hx
                        obtain rfl := Option.some.inj hx
                        exact HC.out⟩, HW.out⟩
                  | true =>
                    have HC := hid hc
                    obtain ⟨KI, q, hKI, t2, p3, p4, w2, c2, f2, HR⟩ := FIN.out k (bx_at HKk.out.2.2 (Or.inr ⟨z, hz, hc⟩))
                    rw [← hw] at c2 f2 HR HB
                    rw [hKI] at p5 p6 b2 ⊢
                    clear hc hz ck hw hKI HW2
                    go_wp2_with (first | (go_at_call 15; with_reducible refine (rless_calls y z _ _ HC.out).mono ?_; rintro e w1 ⟨rfl, rfl⟩))
                    go_roundg k1
                    case measure => omega
                    case rel => exact ⟨i + 1, congrArg (Value.int .i64) HW1.out, hid ⟨by have := HK.out; omega, HCI.out⟩, HR, hid (HB.out.setCell (Nat.le_refl _) _)⟩
              · have b2 : decide ((k : Int) < (M.length : Int)) = false := decide_eq_false (by omega)
                have b3 : decide (k < M.length) = false := decide_eq_false ck
                obtain ⟨KI, q, hKI, t2, p3, p4, w2, c2, f2, HR⟩ := FIN.out k (bx_at HKk.out.2.2 (Or.inl (by have := HKk.out; omega)))
                rw [← hw] at c2 f2 HR HB
                rw [hKI] at b2 ⊢
                clear ck hw hKI
                go_wp2
                go_roundg k1
                case measure => omega
                case rel => exact ⟨i + 1, congrArg (Value.int .i64) HW1.out, hid ⟨by have := HK.out; omega, HCI.out⟩, HR, hid (HB.out.setCell (Nat.le_refl _) _)⟩
      · have b1 : decide (II < (n : Int)) = false := decide_eq_false (by omega)
        have HE : Hid (l.take i = l) := hid (List.take_of_length_le (by have := HN.out; have := HK.out; omega))
        rw [HE.out] at H1
        clear hII ci
        go_wp2
        go_ret
        obtain ⟨h1, h2⟩ := HM.out
        subst h1
        exact ⟨wS.heap.size, M, rfl, HP.out.2.1, HP.out.2.2, H1.out, HBS.out.size, HBS.out.trans (HB.out.mono HBS.out.size)⟩
set_option maxHeartbeats 4000000 in
theorem same_ints (ga gb : Nat) (d : List Int) (m ca cb : Nat) (w : World) (ha : Ri w ga 3 d) (hb : Ri w gb 3 d) (hm : d.length = m) (h0 : m ≤ 1000000) : Calls Try.prog 32 #[.slice (some ⟨ga, 0, none⟩) m ca, .slice (some ⟨gb, 0, none⟩) m cb] w fun e w' => e = .returned (.bool true) ∧ Below w.heap.size w w' := by
  have HN := hid (And.intro hm h0)
  have HA := hid ha
  have HB := hid hb
  clear ha hb hm h0
  go_enter Try.func32, Try.ntmps32
  go_wp2
  go_loopg [13] (m + 1) (fun kq v13 w' => ∃ i : Nat, v13 = .int .i64 (i : Int) ∧ Hid (i + kq = m + 1 ∧ i ≤ m) ∧ Hid (Ri w' ga 3 d ∧ Ri w' gb 3 d ∧ Below w.heap.size w w'))
  case atStart => exact ⟨0, rfl, hid ⟨by omega, by omega⟩, hid ⟨HA.out, HB.out, Below.refl _ _⟩⟩
  case round =>
    obtain ⟨i, rfl, HK, HW⟩ := hrel
    cases gk with
    | zero => exact absurd HK.out.1 (by have := HK.out; omega)
    | succ k1 =>
      obtain ⟨II, hII⟩ : ∃ II : Int, (i : Int) = II := ⟨_, rfl⟩
      rw [hII]
      by_cases ci : i < m
      · have b1 : decide (II < (m : Int)) = true := decide_eq_true (by omega)
        obtain ⟨q, hq⟩ : ∃ q, d.getD i 0 = q := ⟨_, rfl⟩
        have c1 := HW.out.1.cell i (by have := HN.out; omega)
        have c2 := HW.out.2.1.cell i (by have := HN.out; omega)
        rw [hq] at c1 c2
        have hqq : (q != q) = false := by simp
        have t1 : II.toNat = i := by omega
        have p1 : 0 ≤ II := by omega
        have p2 : II < (m : Int) := by omega
        have HCI : Hid (i + 1 ≤ m) := hid ci
        have HW1 : Hid (wrap64 (II + 1) = ((i + 1 : Nat) : Int)) := hid (by have := HN.out; rw [wrap_small _ (by omega) (by omega)]; omega)
        have HX : Hid (∀ nn, Ri (wr.drewN nn) ga 3 d ∧ Ri (wr.drewN nn) gb 3 d ∧ Below w.heap.size w (wr.drewN nn)) := hid fun nn => ⟨HW.out.1, HW.out.2.1, ⟨HW.out.2.2.os, HW.out.2.2.tape, HW.out.2.2.output, HW.out.2.2.size, HW.out.2.2.block⟩⟩
        clear hq hII ci
        go_upto_region 6 with fail
        go_quiet (fail)
        go_wp2
        go_roundg k1
        case measure => omega
        case rel => exact ⟨i + 1, congrArg (Value.int .i64) HW1.out, hid ⟨by have := HK.out; omega, HCI.out⟩, hid (HX.out _)⟩
      · have b1 : decide (II < (m : Int)) = false := decide_eq_false (by omega)
        clear hII ci
        go_wp2
        go_ret
        exact ⟨rfl, HW.out.2.2⟩
theorem bx_same {M L ed : List Nat} (hM : M.Perm ed) (hL : L.Perm ed) (sM : Sd less M) (sL : Sd less L) (x : Nat) : bx M x = bx L x := by
  have hp := hM.trans hL.symm
  have hs := sorted_same less_SW M L hp sM sL
  have hlen := hp.length_eq
  have h1 := bx_le L x
  refine bx_at (fun j y hj hy => ?_) ?_
  · obtain ⟨hjm, rfl⟩ := List.getElem?_eq_some_iff.1 hy
    have hjl : j < L.length := by omega
    have hn : less x L[j] = false := by
      have := List.not_of_lt_findIdx (p := fun e => less x e) (xs := L) hj
      simpa using this
    have := hs j hjm hjl
    rw [same_less' x (same_of this.1 this.2)]
    exact hn
  · rcases Nat.lt_or_ge (bx L x) L.length with h | h
    · refine Or.inr ⟨M[bx L x], List.getElem?_eq_getElem (by omega), ?_⟩
      have := hs (bx L x) (by omega) h
      rw [same_less' x (same_of this.1 this.2)]
      exact List.findIdx_getElem (w := h)
    · exact Or.inl (by omega)
theorem cnts_same {M L ed : List Nat} (hM : M.Perm ed) (hL : L.Perm ed) (sM : Sd less M) (sL : Sd less L) (l : List Nat) : cnts (M.length + 1) (bx M) l = cnts (L.length + 1) (bx L) l := by
  rw [(hM.trans hL.symm).length_eq, show bx M = bx L from funext (bx_same hM hL sM sL)]
end Go.Proofs.Ytebfnmhpmgjoiaa.Fl
