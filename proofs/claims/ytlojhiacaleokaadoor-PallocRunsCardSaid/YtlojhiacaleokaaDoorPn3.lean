/- palloc: PallocRuns' walk. -/
import Derived.Test.YtlojhiacaleokaaDoorPn2
import Derived.Test.YtlojhiacaleokaaDoorPi
namespace Go.Proofs.YtlojhiacaleokaaDoor.Pa
open Go.RowKit Go.Proofs.YtlojhiacaleokaaDoorW.PrintWords Go.Proofs.YtlojhiacaleokaaDoorW.PrintLast Go.Proofs.YtlojhiacaleokaaDoorW.PrintMore
set_option linter.unusedVariables false
set_option linter.unusedSimpArgs false
def RI (w : World) (base : Nat) (v : Value) (l : List Nat) : Prop := Kd.R (Kd.int .i64) 3 w base (fun _ => True) v (vals l)
theorem RI.fr {w w' : World} {base b g : Nat} {v : Value} {l : List Nat} (h : RI w base v l) (hf : Fr b g w w') (hb : b < base) (hg : g < base) : RI w' base v l :=
  Kd.R_mono (Kd.R_move (Kd.R_bound h) (fun k hk => hf.rest k hk.2.2.1 (by have := hk.2.1; omega) (by have := hk.2.1; omega))) (fun _ _ => trivial)
theorem RI.below {w w' : World} {base : Nat} {v : Value} {l : List Nat} (h : RI w base v l) (hb : Below w.heap.size w w') : RI w' base v l := Kd.R_below h hb
theorem RI.reads {w : World} {base : Nat} {v : Value} {l : List Nat} (h : RI w base v l) : ∃ A c, v = .slice A l.length c ∧ l.length ≤ c ∧ Kd.C (Kd.int .i64) w A l.length (vals l) := by
  obtain ⟨A, c, rfl, h1, h2⟩ := Kd.R_reads h
  rw [vals_len] at h1 h2 ⊢
  exact ⟨A, c, rfl, h1, h2⟩
theorem RI.readsAt {w : World} {base c : Nat} {A : Option Addr} {l : List Nat} (h : RI w base (.slice A l.length c) l) : l.length ≤ c ∧ Kd.C (Kd.int .i64) w A l.length (vals l) := by
  obtain ⟨_, h1, h2⟩ := Kd.R_reads' h
  rw [vals_len] at h2
  exact ⟨h1, h2⟩
def lastOf (out : List (Nat × Nat)) (k : Nat) : Int := if h : 0 < k ∧ k ≤ out.length then ((out[k - 1]'(by omega)).2 : Int) else -1
theorem lastOf_zero (out : List (Nat × Nat)) : lastOf out 0 = -1 := by unfold lastOf; rw [dif_neg (by omega)]
theorem lastOf_succ (out : List (Nat × Nat)) (k : Nat) (hk : k < out.length) : lastOf out (k + 1) = (out[k].2 : Int) := by unfold lastOf; rw [dif_pos (by omega)]; rfl
theorem last_lt {out : List (Nat × Nat)} {M : List Nat} (h : Rr out M) (k : Nat) (hk : k < out.length) : lastOf out k + 1 < (out[k].1 : Int) := by
  cases k with
  | zero => rw [lastOf_zero]; have := h.pos 0 hk; omega
  | succ k =>
    rw [lastOf_succ out k (by omega)]
    have := h.gap k hk
    omega
theorem flat_take (out : List (Nat × Nat)) (k : Nat) (hk : k < out.length) : flat (out.take (k + 1)) = flat (out.take k) ++ List.range' out[k].1 (out[k].2 + 1 - out[k].1) := by
  rw [List.take_succ_eq_append_getElem hk, flat_append, flat_one]
theorem flat_le {out : List (Nat × Nat)} {M : List Nat} (h : Rr out M) (k : Nat) : (flat (out.take k)).length ≤ M.length := by
  rw [← h.flat]
  conv => rhs; rw [← List.take_append_drop k out, flat_append, List.length_append]
  omega
theorem out_le {out : List (Nat × Nat)} {M : List Nat} (h : Rr out M) : out.length ≤ M.length := by
  rw [← h.flat]
  have : ∀ (o : List (Nat × Nat)), (∀ k (h : k < o.length), o[k].1 ≤ o[k].2) → o.length ≤ (flat o).length := by
    intro o
    induction o with
    | nil => intro _; simp
    | cons r t ih =>
      intro h
      have h1 := h 0 (by simp)
      have h2 := ih (fun k hk => by have := h (k + 1) (by simpa using hk); simpa using this)
      have h3 : flat (r :: t) = List.range' r.1 (r.2 + 1 - r.1) ++ flat t := by simp [flat]
      rw [h3, List.length_append, List.length_range', List.length_cons]
      simp only [List.getElem_cons_zero] at h1
      omega
  exact this out h.up
theorem CV.usedR {w : World} {base b : Nat} {L : List Nat} (h : CV w base b L) (hT : Tz.Tb w) :
    Calls Tryd.prog 18 #[.pointer (some ⟨b, 0, none⟩)] w fun e w' => ∃ v, e = .returned v ∧ RI w' w.heap.size v L ∧ Below w.heap.size w w' := h.used hT
set_option maxHeartbeats 4000000 in
set_option maxRecDepth 100000 in
theorem walkPallocRuns (a0 : Int) (A1 : Option Addr) (c1 : Nat) (l1 : (List Int)) (a2 : Int) (w : World) (w0 : (Lit.int .i64 a0).wf = true) (hl1 : l1.length ≤ c1) (hr1 : Kd.C (Kd.int .i64) w A1 l1.length l1) (g1 : (l1.length ≤ maxLen ∧ ∀ y1 ∈ l1, (Lit.int .i64 y1).wf = true)) (y1 : l1.length * 8 ≤ 140737488351232) (w2 : (Lit.int .i64 a2).wf = true) (hT : Tz.Tb w) :
    Calls Tryd.prog 6 #[.int .i64 a0, .slice A1 l1.length c1, .int .i64 a2] w fun e w' => e = .returned (.bool true) ∧ Below w.heap.size w w' := by
  have haw := awake w hT
  have HT := hid hT
  have HR := hid hr1
  clear w0 g1 y1 w2 hT hr1 hl1
  by_cases c2 : 300 < a0
  · have b2 : decide (300 < a0) = true := decide_eq_true c2
    go_enter Tryd.func6, Tryd.ntmps6
    go_wp2_with (first | (go_at_call 7; (with_reducible refine haw.mono ?_); rintro e w1 ⟨rfl, hB⟩; have HB := hid hB; clear hB))
    go_ret
    exact ⟨rfl, HB.out⟩
  · have b2 : decide (300 < a0) = false := decide_eq_false c2
    by_cases c3 : 60 < l1.length
    · have b3 : decide (60 < (l1.length : Int)) = true := decide_eq_true (by omega)
      go_enter Tryd.func6, Tryd.ntmps6
      go_wp2_with (first | (go_at_call 7; (with_reducible refine haw.mono ?_); rintro e w1 ⟨rfl, hB⟩; have HB := hid hB; clear hB))
      go_ret
      exact ⟨rfl, HB.out⟩
    · have b3 : decide (60 < (l1.length : Int)) = false := decide_eq_false (by omega)
      obtain ⟨N, hN⟩ : ∃ N, cl a0 = N := ⟨_, rfl⟩
      have HLs := hid (show l1.length ≤ 1000 by omega)
      have HN2 : Hid (N ≤ 1048576) := hid (by rw [← hN]; exact cl_le _)
      have HN := hid hN
      clear c2 c3 hN
      go_enter Tryd.func6, Tryd.ntmps6
      go_wp2_with (first
        | (go_at_call 7; (with_reducible refine haw.mono ?_); rintro e w1 ⟨rfl, hB⟩; have HB := hid hB; clear hB)
        | (go_at_call 8; (with_reducible refine (new_ A1 c1 l1 w1 (Kd.C_below HR.out HB.out) HLs.out a0).mono ?_); rw [HN.out]; rintro e w2 ⟨rfl, hP, hB⟩; obtain ⟨L, hL⟩ : ∃ L, newL N l1 = L := ⟨_, rfl⟩; rw [hL] at hP; have HP := hid hP; have HB2 := hid (Go.Proofs.YtlojhiacaleokaaDoor.L.bel HB.out hB); clear hP hB hL)
        | (go_at_call 19; (with_reducible refine (HP.out.copy).mono ?_); rintro e w3 ⟨b2, rfl, hC, hB⟩; have HC := hid hC; have HP3 := hid (HP.out.below hB); have HB3 := hid (Go.Proofs.YtlojhiacaleokaaDoor.L.bel HB2.out hB); clear hC hB)
        | (go_at_call 20; (with_reducible refine (HP3.out.runs (Tz.Tb_below HT.out HB3.out)).mono ?_); rintro e w4 ⟨v, out, rfl, hRW, hRr, hB⟩; have HRW := Aside0.mk hRW; have HRr := hid hRr; have HP4 := hid (HP3.out.below hB); have HC4 := hid (HC.out.below hB); have HB4 := hid (Go.Proofs.YtlojhiacaleokaaDoor.L.bel HB3.out hB); have hlo : ∃ A c, v = .slice A out.length c := (by rcases hRW.slice with ⟨rfl, rfl⟩ | ⟨g9, cap9, rfl, _⟩ <;> exact ⟨_, _, rfl⟩); obtain ⟨A9, c9, rfl⟩ := hlo; clear hRW hRr hB))
      have HLo := hid (show w1.heap.size + 1 < w4.heap.size ∧ w1.heap.size < w4.heap.size ∧ w2.heap.size ≤ w4.heap.size from ⟨HP4.out.lt.1, HP4.out.lt.2, by have := HP3.out.lt; have := HC.out.low; have := HC4.out.lt; omega⟩)
      have HLE := hid (Nat.le_trans (out_le HRr.out) (Nat.le_trans HP4.out.len HN2.out))
      obtain ⟨b, hbe⟩ : ∃ b, w1.heap.size + 1 = b := ⟨_, rfl⟩
      obtain ⟨g, hge⟩ : ∃ g, w1.heap.size = g := ⟨_, rfl⟩
      have HG : Hid (w.heap.size ≤ b ∧ w.heap.size ≤ g) := hid ⟨by have := HB.out.size; omega, by have := HB.out.size; omega⟩
      have HCB : Hid (b < w2.heap.size ∧ g < w2.heap.size) := hid ⟨by have := HP.out.lt.1; omega, by have := HP.out.lt.2; omega⟩
      rw [hbe, hge] at HP4 HLo
      rw [hbe]
      clear hbe hge HB HB2 HB3 HP HP3 HC haw
      go_loopg [9, 10, 35] (out.length + 1) (fun kq v9 v10 v35 w' => ∃ k : Nat, v35 = .int .i64 (k : Int) ∧ Hid (k + kq = out.length + 1 ∧ k ≤ out.length) ∧ v10 = .int .i64 (lastOf out k) ∧ Aside0 (RI w' w4.heap.size v9 (flat (out.take k))) ∧ Hid (Below w4.heap.size w4 w'))
      case atStart => exact ⟨0, rfl, hid ⟨by omega, by omega⟩, by rw [lastOf_zero], ⟨Kd.R_nil _ _ _ _ _⟩, hid (Below.refl _ _)⟩
      case round =>
        obtain ⟨k, rfl, HK, rfl, HAL, HBk⟩ := hrel
        obtain ⟨wq, rfl⟩ : ∃ wq, wq = wr := ⟨_, rfl⟩
        have hk := HK.out.2
        cases gk with
        | zero => exact absurd HK.out.1 (by omega)
        | succ k1 =>
          by_cases ck : k < out.length
          · have c4b0 : decide (k < out.length) = true := decide_eq_true ck
            have hsl := (RW.below HRW.out HBk.out).slice
            rcases hsl with ⟨hv, hn⟩ | ⟨g9, cap9, hv, _, _, hcl⟩
            · rw [hn] at ck; simp at ck
            · injection hv with e1 e2 e3
              subst e1; subst e3
              obtain ⟨ha0, ha1⟩ := cels_at out k ck
              have hx0 := (hcl _ _ ha0).1
              have hx1 := (hcl _ _ ha1).1
              have hup := HRr.out.up k ck
              have hlt := last_lt HRr.out k ck
              have hls := lastOf_succ out k ck
              have hft := flat_take out k ck
              have hfl := flat_le HRr.out (k + 1)
              rw [hft, List.length_append, List.length_range'] at hfl
              obtain ⟨r0, hr0⟩ : ∃ r0, out[k].1 = r0 := ⟨_, rfl⟩
              obtain ⟨r1, hr1⟩ : ∃ r1, out[k].2 = r1 := ⟨_, rfl⟩
              obtain ⟨LA, hLA⟩ : ∃ LA, lastOf out k = LA := ⟨_, rfl⟩
              rw [hr0] at hx0 hup hlt hft hfl
              rw [hr1] at hx1 hup hls hft hfl
              rw [hLA] at hlt ⊢
              have hLL : L.length ≤ 1048576 := Nat.le_trans HP4.out.len HN2.out
              have hrng : r1 ≤ 1048576 := by
                have h1 := HRr.out.mem k ck
                rw [hr1] at h1
                have := (HP4.out.inn _ h1).2
                have := HN2.out
                omega
              have hla : -1 ≤ LA := by
                rw [← hLA]; unfold lastOf; split <;> omega
              obtain ⟨R0, hR0⟩ : ∃ R0 : Int, (r0 : Int) = R0 := ⟨_, rfl⟩
              obtain ⟨R1, hR1⟩ : ∃ R1 : Int, (r1 : Int) = R1 := ⟨_, rfl⟩
              rw [hR0] at hx0 hlt
              rw [hR1] at hx1 hls
              have b4 : decide (R1 < R0) = false := decide_eq_false (by omega)
              have b5 : wrap64 (LA + 1) = LA + 1 := wrap_small _ (by omega) (by omega)
              have b6 : decide (R0 ≤ LA + 1) = false := decide_eq_false (by omega)
              have p0 : (0 ≤ (k : Int)) = True := eq_true (by omega)
              have q0 : ((k : Int) < (out.length : Int)) = True := eq_true (by omega)
              have HW : Hid (wrap64 ((k : Int) + 1) = ((k + 1 : Nat) : Int)) := by
                have := HLE.out
                refine hid ?_
                rw [wrap_small _ (by omega) (by omega)]; rfl
              have HF := hid hft
              have HFL := hid hfl
              have HLS := hid hls
              have HRR : Hid ((r0 : Int) = R0 ∧ (r1 : Int) = R1 ∧ r0 ≤ r1 ∧ r1 ≤ 1048576 ∧ L.length ≤ 1048576) := hid ⟨hR0, hR1, hup, hrng, hLL⟩
              have HBX : Hid ((wq.alloc (.cells #[.int .i64 R0, .int .i64 R1] 45)).heap[wq.heap.size]? = some (.cells #[.int .i64 R0, .int .i64 R1] 45 (0, 0))) := hid (blk_new wq _)
              have HAL0 : Aside0 (RI (wq.alloc (.cells #[.int .i64 R0, .int .i64 R1] 45)) w4.heap.size _ (flat (out.take k))) := ⟨RI.below HAL.out (below_alloc (Below.refl _ _) _)⟩
              have HB0 : Hid (Below w4.heap.size w4 (wq.alloc (.cells #[.int .i64 R0, .int .i64 R1] 45))) := hid (below_alloc HBk.out _)
              clear hcl ha0 ha1 hup hlt hls hft hfl hr0 hr1 hLA hLL hrng hla hR0 hR1
              go_wp2
              go_loopg [9, 13] (r1 + 2 - r0 + 1) (fun kq v9 v13 w' => ∃ (m : Nat) (Q : Int), v13 = .int .i64 Q ∧ Hid (Q = ((r0 + m : Nat) : Int)) ∧ Hid (m + kq = r1 + 2 - r0 + 1 ∧ m ≤ r1 + 1 - r0) ∧ Aside0 (RI w' w4.heap.size v9 (flat (out.take k) ++ List.range' r0 m)) ∧ Hid (Below w4.heap.size w4 w') ∧ Hid (w'.heap[wq.heap.size]? = some (.cells #[.int .i64 R0, .int .i64 R1] 45 (0, 0))))
              case atStart => exact ⟨0, R0, rfl, hid (by have := HRR.out.1; omega), hid ⟨by omega, by omega⟩, ⟨by rw [List.range'_zero, List.append_nil]; exact HAL0.out⟩, HB0, HBX⟩
              case round =>
                obtain ⟨m, Q, rfl, HQ, HM, HA1, HB1, HX1⟩ := hrel
                have hbx1 : wr.cell? ⟨wq.heap.size, 1, none⟩ = some (.int .i64 R1) := blk_cell HX1.out 1
                cases gk with
                | zero => exact absurd HM.out.1 (by have := HRR.out; have := HM.out.2; omega)
                | succ k2 =>
                  by_cases cm : m < r1 + 1 - r0
                  · have b7 : decide (Q ≤ R1) = true := decide_eq_true (by have := HQ.out; have := HRR.out; omega)
                    have HWQ : Hid (wrap64 (Q + 1) = ((r0 + (m + 1) : Nat) : Int)) := hid (by
                      have := HQ.out
                      have := HRR.out
                      rw [wrap_small _ (by omega) (by omega)]; omega)
                    have HLN : Hid ((flat (out.take k) ++ List.range' r0 m).length ≤ 1048576) := hid (by
                      have := HFL.out
                      have := HRR.out
                      rw [List.length_append, List.length_range']; omega)
                    go_wp2_with (first | ((with_reducible refine gate_builtin (b := .append) (xs := #[.tmp 61, .tmp 63]) rfl ?_); at_builtin; refine Kd.R_append (Kd.int .i64) (w0 := w4) w4.heap.size rfl (.tmp 61) (.tmp 63) 22 3 (.int .i64 0) 8 rfl Tryd.underlying22 info3 rfl (by decide) (by omega) _ (vals (flat (out.take k) ++ List.range' r0 m)) Q [.int .i64 Q] (fun _ => True) (fun _ => False) rfl rfl ?aP (fun _ hk => hk.elim) ?aF ?aO ?aB ?aS ?aL ?_; (case aP => exact rfl); (case aF => exact (fun _ _ => trivial)); (case aO => exact HA1.out); (case aB => exact HB1.out); (case aS => exact HB1.out.size); (case aL => have := HLN.out; rw [vals_len]; omega); intro v1 w5 ho hb1 hg1 hat1; have HO1 := Aside0.mk ho; have HB5 := hid hb1; have HX5 := hid ((hg1.block wq.heap.size (blk_lt HX1.out) (Kd.R_ne HA1.out HX1.out (by decide))).trans HX1.out); clear ho hb1 hg1 hat1))
                    go_roundg k2
                    case measure => omega
                    case rel =>
                      refine ⟨m + 1, _, rfl, HWQ, hid ⟨by have := HM.out.1; omega, by omega⟩, ⟨?_⟩, HB5, HX5⟩
                      have h9 := HO1.out
                      rw [HQ.out] at h9
                      unfold RI
                      rw [List.range'_concat, ← List.append_assoc, vals_append, Nat.one_mul]
                      exact h9
                  · have b7 : decide (Q ≤ R1) = false := decide_eq_false (by have := HQ.out; have := HRR.out; have := HM.out; omega)
                    have HE : Hid (flat (out.take k) ++ List.range' r0 m = flat (out.take (k + 1))) := hid (by
                      have : m = r1 + 1 - r0 := by have := HM.out; omega
                      rw [HF.out, this])
                    go_wp2
                    go_roundg k1
                    case measure => omega
                    case rel => exact ⟨k + 1, congrArg (Value.int .i64) HW.out, hid ⟨by have := HK.out.1; omega, by omega⟩, by rw [HLS.out], ⟨by rw [← HE.out]; exact HA1.out⟩, HB1⟩
          · have c4b0 : decide (k < out.length) = false := decide_eq_false ck
            have HE : Hid (flat (out.take k) = L) := hid (by rw [List.take_of_length_le (by omega)]; exact HRr.out.flat)
            have HAL2 : Aside0 (RI wq w4.heap.size _ L) := ⟨by have := HAL.out; rw [HE.out] at this; exact this⟩
            have HPk := hid (HP4.out.below (HBk.out))
            have HCk := hid (HC4.out.below (HBk.out))
            have HBw := hid (Go.Proofs.YtlojhiacaleokaaDoor.L.bel HB4.out HBk.out)
            have HLm : Hid (L.length ≤ 1048576) := hid (Nat.le_trans HP4.out.len HN2.out)
            obtain ⟨Aa, ca, rfl, _, _⟩ := HAL2.out.reads
            have hz0 : wrap64 0 = 0 := wrap_small _ (by decide) (by decide)
            clear HAL HE HRW HK c4b0
            go_wp2_with (first
              | (go_at_call 18; (with_reducible refine (HCk.out.usedR (Tz.Tb_below HT.out HBw.out)).mono ?_); rintro e w5 ⟨v, rfl, hR, hB⟩; have HW5 := Aside0.mk hR; have HA5 := Aside0.mk (HAL2.out.below hB); have HP5 := hid (HPk.out.below hB); have HC5 := hid (HCk.out.below hB); have HB5 := hid (Go.Proofs.YtlojhiacaleokaaDoor.L.bel HBw.out hB); have HS5 := hid (show w4.heap.size ≤ wq.heap.size from HBk.out.size); clear hR hB)
              | (go_at_call 11; (with_reducible refine (HP5.out.give a2).mono ?_); rintro e w6 ⟨rfl, hP, hF⟩; have HP6 := hid hP; have HW6 := Aside0.mk (HW5.out.fr hF (by have := HLo.out; have := HS5.out; omega) (by have := HLo.out; have := HS5.out; omega)); have HA6 := Aside0.mk (HA5.out.fr hF HLo.out.1 HLo.out.2.1); have HC6 := hid (HC5.out.fr hF HCB.out.1 HCB.out.2); have HB6 := hid (hF.low HB5.out (Nat.le_refl _) HG.out.1 HG.out.2); clear hP hF)
              | (go_at_call 10; (with_reducible refine (HP6.out.take (Tz.Tb_below HT.out HB6.out)).mono ?_); rintro e w7 ⟨v, L', rfl, hTk, hP, hF⟩; have HW7 := Aside0.mk (HW6.out.fr hF (by have := HLo.out; have := HS5.out; omega) (by have := HLo.out; have := HS5.out; omega)); have HA7 := Aside0.mk (HA6.out.fr hF HLo.out.1 HLo.out.2.1); have HC7 := hid (HC6.out.fr hF HCB.out.1 HCB.out.2); have HB7 := hid (hF.low HB6.out (Nat.le_refl _) HG.out.1 HG.out.2); clear hTk hP hF)
              | (go_at_call 10; (with_reducible refine (take_nil w7).mono ?_); rintro e w9 ⟨rfl, hw9⟩; subst w9; obtain ⟨A7, c7, hv7, hc7, hC7⟩ := HW7.out.reads; obtain ⟨hca7, hCa7⟩ := HA7.out.readsAt; subst hv7; have HC77 := hid hC7; have HCa77 := hid hCa7; have Hc7 := hid hc7; have Hca7 := hid hca7; clear hc7 hC7 hca7 hCa7)
              | (go_at_call 17; (with_reducible refine (same Aa ca A7 c7 L w7 HCa77.out Hca7.out HC77.out Hc7.out HLm.out).mono ?_); rintro e w8 ⟨rfl, m8, rfl⟩; have HB8 := hid (Go.Proofs.YtlojhiacaleokaaDoor.L.bel HB7.out (pw_below_drewN (Below.refl _ _) m8)); have HC8 := hid (HC7.out.below (pw_below_drewN (Below.refl _ _) m8)); have HW8 := hid (Kd.C_drewN HC77.out m8))
              | (go_at_call 18; (with_reducible refine (HC8.out.used' (Tz.Tb_below HT.out HB8.out)).mono ?_); rintro e wA ⟨AA, cA, rfl, hcA, hCA, hBA⟩; have HcA := hid hcA; have HCA := hid hCA; have HWA := hid (Kd.C_below HW8.out hBA); have HBA := hid (Go.Proofs.YtlojhiacaleokaaDoor.L.bel HB8.out hBA); clear hcA hCA hBA)
              | (go_at_call 17; (with_reducible refine (same AA cA A7 c7 L wA HCA.out HcA.out HWA.out Hc7.out HLm.out).mono ?_); rintro e wB ⟨rfl, mB, rfl⟩; have HBB := hid (Go.Proofs.YtlojhiacaleokaaDoor.L.bel HBA.out (pw_below_drewN (Below.refl _ _) mB)))
              | (go_at_call 11; (with_reducible refine (give_nil _ _).mono ?_); rintro e wN ⟨rfl, hwN⟩; subst wN)
              | (go_at_call 15; (with_reducible refine (has_nil _ _).mono ?_); rintro e wN ⟨rfl, hwN⟩; subst wN)
              | (go_at_call 9; (with_reducible refine (free_nil _).mono ?_); rintro e wN ⟨rfl, hwN⟩; subst wN)
              | (go_at_call 18; (with_reducible refine (used_nil _).mono ?_); rintro e wN ⟨rfl, hwN⟩; subst wN)
              | (go_at_call 20; (with_reducible refine (runs_nil _).mono ?_); rintro e wN ⟨rfl, hwN⟩; subst wN)
              | (go_at_call 19; (with_reducible refine (copy_nil _).mono ?_); rintro e wN ⟨rfl, hwN⟩; subst wN))
            go_ret
            exact ⟨rfl, HBB.out⟩
end Go.Proofs.YtlojhiacaleokaaDoor.Pa
