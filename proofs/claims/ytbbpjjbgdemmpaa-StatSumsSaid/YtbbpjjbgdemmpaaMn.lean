/- StatSums: the walk. -/
import Derived.Test.YtbbpjjbgdemmpaaMs
import Derived.Outline
namespace Go.Proofs.Ytbbpjjbgdemmpaa.PStat
open Go.RowKit Go.Proofs.YtbbpjjbgdemmpaaW.PrintWords Go.Proofs.YtbbpjjbgdemmpaaW.PrintLast Go.Proofs.YtbbpjjbgdemmpaaW.PrintMore
set_option linter.unusedVariables false
set_option linter.unusedSimpArgs false
theorem kc_index (l : List S54) (i : Nat) (h : i < 18) (w : World) : (Instr.index 45 (.agg (kc (cK l))) (.int .i64 (i : Int))).run Try.prog w = .ok (.int .i64 (cK l i : Int)) w :=
  L.run_index_one Try.underlying45 (by kernel_rfl) Try.underlying3 rfl _ _ _ (by omega) (by omega) _ (by rw [Int.toNat_natCast]; exact kc_at _ _ h) w
theorem row_blk {w w' : World} {b n : Nat} {F : Int → Int} (h : Mp w b n F) (hb : Below w.heap.size w w') : Mp w' b n F := mp_blk h (hb.block _ (mp_lt h))
set_option maxHeartbeats 16000000 in
set_option maxRecDepth 100000 in
theorem law9 (A0 : Option Addr) (c0 : Nat) (l : List S54) (w : World) (hc0 : l.length ≤ c0) (hr0 : Kd.C k54 w A0 l.length l) (hm : l.length ≤ 1000000000000) (hwf : ∀ x ∈ l, (Lit.int .i64 (er x)).wf = true) :
    Calls Try.prog 9 #[.slice A0 l.length c0] w fun e w' => e = .returned (.bool true) ∧ Below w.heap.size w w' := by
  have HR := Aside0.mk hr0
  have HWF := Aside0.mk hwf
  have HM := Aside0.mk hm
  have HC := Aside0.mk hc0
  have HA := Aside0.mk (sumplaw39_awake.t33 w)
  clear hr0 hwf hm hc0
  cases hf : few l with
  | false =>
    go_enter Try.func9, Try.ntmps9
    go_wp2_with (first | (go_at_call 33; refine HA.out.mono ?_; rintro e w1 ⟨rfl, hb1⟩; have HB1 := Aside0.mk hb1; clear hb1) | (go_at_call 34; refine (few_calls A0 c0 l w1 (Kd.C_below HR.out HB1.out) HM.out).mono ?_; rintro e w2 ⟨rfl, hb2⟩; rw [hf]; have HB2 := Aside0.mk (below_step HB1.out hb2); clear hb2))
    go_ret
    exact ⟨rfl, HB2.out⟩
  | true =>
    have HF := Aside0.mk hf
    have hlen := (few_el hf).1
    go_enter Try.func9, Try.ntmps9
    go_wp2_with (first | (go_at_call 33; refine HA.out.mono ?_; rintro e w1 ⟨rfl, hb1⟩; have HB1 := Aside0.mk hb1; clear hb1) | (go_at_call 34; refine (few_calls A0 c0 l w1 (Kd.C_below HR.out HB1.out) HM.out).mono ?_; rintro e w2 ⟨rfl, hb2⟩; rw [hf]; have HB2 := Aside0.mk (below_step HB1.out hb2); clear hb2) | (go_at_call 35; refine (kinds_calls A0 c0 l w2 (Kd.C_below HR.out HB2.out) (by omega)).mono ?_; rintro e w3 ⟨rfl, hb3⟩; have HB3 := Aside0.mk (below_step HB2.out hb3); clear hb3))
    clear hf
    obtain ⟨KV, hKV⟩ : ∃ KV, KV = kc (cK l) := ⟨_, rfl⟩
    have HIX : Aside0 (∀ i : Nat, i < 18 → ∀ W : World, (Instr.index 45 (.agg KV) (.int .i64 (i : Int))).run Try.prog W = .ok (.int .i64 (cK l i : Int)) W) := ⟨fun i h W => by rw [hKV]; exact kc_index l i h W⟩
    rw [← hKV]
    clear hKV
    go_loopg [21, 3] 19 (fun kq v21 v3 w' => ∃ i : Nat, v21 = .int .i64 (i : Int) ∧ v3 = .int .i64 (sK l i : Int) ∧ Aside0 (i + kq = 19 ∧ i ≤ 18) ∧ w' = w3)
    case atStart => exact ⟨0, rfl, by rw [sK_zero]; rfl, ⟨by omega, by omega⟩, rfl⟩
    case round =>
      obtain ⟨i, rfl, rfl, HJ, rfl⟩ := hrel
      have hi := HJ.out.2
      cases gk with
      | zero => exact absurd HJ.out.1 (by omega)
      | succ k1 =>
        by_cases c : i < 18
        · have q0 : (i : Int) < 18 := by omega
          have hix := HIX.out i c
          have SK := Aside0.mk (sK_succ l i)
          have l1 := sK_le l i
          have l2 := sK_le l (i + 1)
          rw [SK.out] at l2
          obtain ⟨a, ha⟩ : ∃ a, a = sK l i := ⟨_, rfl⟩
          obtain ⟨b, hb⟩ : ∃ b, b = cK l i := ⟨_, rfl⟩
          rw [← hb] at hix
          rw [← ha, ← hb] at SK l2
          rw [← ha] at l1 ⊢
          clear ha hb
          go_wp2
          go_roundg k1
          case measure => omega
          case rel => exact ⟨i + 1, by go_num, by rw [SK.out] <;> first | rfl | go_num, ⟨by have := HJ.out.1; omega, by omega⟩, rfl⟩
        · have q0 : ¬ (i : Int) < 18 := by omega
          obtain rfl : i = 18 := by omega
          rw [sK_all]
          go_wp2_with (first | (go_at_call 36; refine (errors_calls A0 c0 l wr (Kd.C_below HR.out HB3.out) (by omega) HWF.out).mono ?_; rintro e w4 ⟨rfl, hm4, hb4⟩; have HM4 := Aside0.mk hm4; have HB4 := Aside0.mk (below_step HB3.out hb4); clear hm4 hb4))
          obtain ⟨mb, hmb⟩ : ∃ mb, mb = wr.heap.size := ⟨_, rfl⟩
          rw [← hmb] at HM4 ⊢
          clear hmb HJ hi c q0
          go_loopg [32, 4] (l.length + 1) (fun kq v32 v4 w' => ∃ j : Nat, v32 = .int .i64 (j : Int) ∧ v4 = .int .i64 (mE l j : Int) ∧ Aside0 (j + kq = l.length + 1 ∧ j ≤ l.length) ∧ Aside0 (Mp w' mb l.length (fun y => (cE l y : Int))) ∧ Aside0 (Below w.heap.size w w'))
          case atStart => exact ⟨0, rfl, by rw [mE_zero]; rfl, ⟨by omega, by omega⟩, HM4, HB4⟩
          case round =>
            clear HM4 HB4
            obtain ⟨j, rfl, rfl, HJ, HMp, HB⟩ := hrel
            have hj := HJ.out.2
            cases gk with
            | zero => exact absurd HJ.out.1 (by omega)
            | succ k2 =>
              by_cases c : j < l.length
              · have q0 : (j : Int) < (l.length : Int) := by omega
                obtain ⟨ad, CS, A8, c8, A14, c14, rfl, hcell, E, hC8, hl8⟩ := elem HR.out j c
                have HCL : Aside0 (∀ q v, CS[q]? = some v → wr.cell? ((ad.add (j * 18)).add q) = some v) := ⟨fun q v hq => pw_cell_below HB.out (hcell q v hq)⟩
                have HE := Aside0.mk E
                have hjc : (j : Int) ≤ (c0 : Int) := by have := HC.out; omega
                have hjl : (j : Int) ≤ (l.length : Int) := by omega
                have hj0 : (0 : Int) ≤ (j : Int) := by omega
                have hjc' : j ≤ c0 := by have := HC.out; omega
                clear hcell E hC8 hl8
                go_wp2_with (first | ((with_reducible refine L.wpList_load_cells (o := ⟨some 36, _, _, _, _, _⟩) ?hgd 54 (.tmp 35) ?ho (ad.add (j * 18)) ?hx CS _ HCL.out Try.underlying54 ?hd (hi54 HE.out.sz) ?_); (case hgd => rfl); (case ho => rfl); (case hx => rfl); (case hd => rfl)) | ((with_reducible refine L.wpList_store_new rfl 54 _ _ rfl 54 _ CS ?hx ?hy (hi54 HE.out.sz) ?ho HE.out.one ?_); (case hx => rfl); (case hy => rfl); (case ho => rw [HE.out.sz]; kernel_rfl)))
                obtain ⟨xb, hxb⟩ : ∃ xb, xb = wr.heap.size := ⟨_, rfl⟩
                have hwx : w.heap.size ≤ xb := by rw [hxb]; exact HB.out.size
                rw [← hxb]
                have HX1 : Aside0 ((wr.alloc (.cells CS 54)).heap[xb]? = some (.cells CS 54 (0, 0))) := ⟨by rw [hxb]; exact blk_new wr _⟩
                have HM1 : Aside0 (Mp (wr.alloc (.cells CS 54)) mb l.length (fun y => (cE l y : Int))) := ⟨row_blk HMp.out (below_alloc (Below.refl _ _) _)⟩
                have HB1' : Aside0 (Below w.heap.size w (wr.alloc (.cells CS 54))) := ⟨below_alloc HB.out _⟩
                clear hxb HCL HMp HB
                obtain ⟨wo, hwo⟩ : ∃ wo, wo = wr.alloc (.cells CS 54) := ⟨_, rfl⟩
                rw [← hwo] at HX1 HM1 HB1' ⊢
                clear hwo
                have hco := HJ.out.1
                go_loopg [41, 10] (j + 1) (fun kq v41 v10 w' => ∃ i : Nat, v41 = .int .i64 (i : Int) ∧ v10 = .bool (fst l (er l[j]) i) ∧ Aside0 (i + kq = j + 1 ∧ i ≤ j) ∧ Aside0 (w'.heap[xb]? = some (.cells CS 54 (0, 0))) ∧ Aside0 (Mp w' mb l.length (fun y => (cE l y : Int))) ∧ Aside0 (Below w.heap.size w w'))
                case atStart => exact ⟨0, rfl, by rw [fst_zero], ⟨by omega, by omega⟩, HX1, HM1, HB1'⟩
                case round =>
                  clear HX1 HM1 HB1'
                  obtain ⟨i, rfl, rfl, HI, HX, HMp, HB⟩ := hrel
                  have hii := HI.out.2
                  cases gk with
                  | zero => exact absurd HI.out.1 (by omega)
                  | succ k3 =>
                    by_cases ci : i < j
                    · have q1 : (i : Int) < (j : Int) := by omega
                      obtain ⟨ad2, CS2, B8, d8, B14, d14, had, hcell, E2, hC8, hl8⟩ := elem HR.out i (by omega)
                      obtain rfl := Option.some.inj had
                      have HCL2 : Aside0 (∀ q v, CS2[q]? = some v → wr.cell? ((ad.add (i * 18)).add q) = some v) := ⟨fun q v hq => pw_cell_below HB.out (hcell q v hq)⟩
                      have HE2 := Aside0.mk E2
                      have e9 := E2.c9
                      have x9 : wr.cell? ⟨xb, 9, none⟩ = some (.int .i64 (er l[j])) := (blk_cell HX.out 9).trans HE.out.c9
                      have hxlt := blk_lt HX.out
                      have hxne : xb ≠ wr.heap.size := by omega
                      have FS := Aside0.mk (fst_succ l (er l[j]) i (by omega))
                      obtain ⟨bF, hbF⟩ : ∃ b, b = fst l (er l[j]) i := ⟨_, rfl⟩
                      rw [← hbF] at FS ⊢
                      clear hbF hcell E2 hC8 hl8 had
                      cases bF with
                      | true =>
                        go_wp2_with (first | ((with_reducible refine L.wpList_load_cells (o := ⟨some 44, _, _, _, _, _⟩) ?hgd 54 (.tmp 43) ?ho (ad.add (i * 18)) ?hx CS2 _ HCL2.out Try.underlying54 ?hd (hi54 HE2.out.sz) ?_); (case hgd => rfl); (case ho => rfl); (case hx => rfl); (case hd => rfl)) | ((with_reducible refine L.wpList_store_new rfl 54 _ _ rfl 54 _ CS2 ?hx ?hy (hi54 HE2.out.sz) ?ho HE2.out.one ?_); (case hx => rfl); (case hy => rfl); (case ho => rw [HE2.out.sz]; kernel_rfl)))
                        go_roundg k3
                        case measure => omega
                        case rel => exact ⟨i + 1, by go_num, by rw [FS.out]; rfl, ⟨by have := HI.out.1; omega, by omega⟩, ⟨blk_alloc HX.out _⟩, ⟨row_blk HMp.out (below_alloc (Below.refl _ _) _)⟩, ⟨below_alloc HB.out _⟩⟩
                      | false =>
                        go_wp2_with (first | ((with_reducible refine L.wpList_load_cells (o := ⟨some 44, _, _, _, _, _⟩) ?hgd 54 (.tmp 43) ?ho (ad.add (i * 18)) ?hx CS2 _ HCL2.out Try.underlying54 ?hd (hi54 HE2.out.sz) ?_); (case hgd => rfl); (case ho => rfl); (case hx => rfl); (case hd => rfl)) | ((with_reducible refine L.wpList_store_new rfl 54 _ _ rfl 54 _ CS2 ?hx ?hy (hi54 HE2.out.sz) ?ho HE2.out.one ?_); (case hx => rfl); (case hy => rfl); (case ho => rw [HE2.out.sz]; kernel_rfl)))
                        go_roundg k3
                        case measure => omega
                        case rel => exact ⟨i + 1, by go_num, by rw [FS.out]; rfl, ⟨by have := HI.out.1; omega, by omega⟩, ⟨blk_alloc HX.out _⟩, ⟨row_blk HMp.out (below_alloc (Below.refl _ _) _)⟩, ⟨below_alloc HB.out _⟩⟩
                    · have q1 : ¬ (i : Int) < (j : Int) := by omega
                      obtain rfl : i = j := by omega
                      have x9 : wr.cell? ⟨xb, 9, none⟩ = some (.int .i64 (er l[i])) := (blk_cell HX.out 9).trans HE.out.c9
                      have hlk := mp_look HMp.out (HWF.out _ (List.getElem_mem c))
                      have MS := Aside0.mk (mE_succ l i c)
                      have m1 := mE_le l i
                      have m2 := mE_le l (i + 1)
                      obtain ⟨me, hme⟩ : ∃ me, me = mE l i := ⟨_, rfl⟩
                      obtain ⟨ce, hce⟩ : ∃ ce, ce = cE l (er l[i]) := ⟨_, rfl⟩
                      rw [← hme, ← hce] at MS
                      rw [← hce] at hlk
                      rw [← hme] at m1 ⊢
                      rw [MS.out] at m2
                      obtain ⟨bF, hbF⟩ : ∃ b, b = fst l (er l[i]) i := ⟨_, rfl⟩
                      rw [← hbF] at MS m2 ⊢
                      clear hbF hme hce
                      cases bF with
                      | true =>
                        simp only [if_true] at MS m2
                        go_wp2
                        go_roundg k2
                        case measure => omega
                        case rel => exact ⟨i + 1, by go_num, by rw [MS.out] <;> first | rfl | go_num, ⟨by omega, by omega⟩, HMp, HB⟩
                      | false =>
                        simp only [Bool.false_eq_true, if_false, Nat.add_zero] at MS m2
                        go_wp2
                        go_roundg k2
                        case measure => omega
                        case rel => exact ⟨i + 1, by go_num, by rw [MS.out], ⟨by omega, by omega⟩, HMp, HB⟩
              · have q0 : ¬ (j : Int) < (l.length : Int) := by omega
                obtain rfl : j = l.length := by omega
                rw [mE_all]
                have h1 := nF_eq l
                have h2 := n_le l
                have HOf : Aside0 (Calls Try.prog 37 #[.slice A0 l.length c0] wr fun e' w5 => e' = .returned (.agg (tally l.length (nF l) (nW l) (nS l))) ∧ Below wr.heap.size wr w5) := ⟨of_calls _ c0 l wr (Kd.C_below HR.out HB.out) (by omega)⟩
                obtain ⟨a, ha⟩ : ∃ a, a = nF l := ⟨_, rfl⟩
                obtain ⟨b, hb⟩ : ∃ b, b = nW l := ⟨_, rfl⟩
                obtain ⟨d, hd⟩ : ∃ d, d = nS l := ⟨_, rfl⟩
                obtain ⟨z, hz⟩ : ∃ z, z = cE l 0 := ⟨_, rfl⟩
                rw [← ha, ← hb, ← hd] at HOf
                rw [← ha, ← hz] at h1
                rw [← ha, ← hb, ← hd] at h2
                have HZ : Aside0 (cE l 0 = z) := ⟨hz.symm⟩
                clear ha hb hd hz
                have hq : (((a : Nat) : Int) == ((l.length : Nat) : Int) - ((z : Nat) : Int)) = true := by rw [beq_iff_eq]; omega
                have hzl : z ≤ l.length := by omega
                have h6 : (Try.prog.info? 56).map (·.size) = some (tally l.length a b d).size := by kernel_rfl
                obtain ⟨T, hT⟩ : ∃ T, T = tally l.length a b d := ⟨_, rfl⟩
                have t0 : T[0]? = some (.int .i64 (l.length : Int)) := by rw [hT]; rfl
                have t1 : T[1]? = some (.int .i64 (a : Int)) := by rw [hT]; rfl
                have t2 : T[2]? = some (.int .i64 (b : Int)) := by rw [hT]; rfl
                have t3 : T[3]? = some (.int .i64 (d : Int)) := by rw [hT]; rfl
                have HTs : Aside0 (T.size = 6) := ⟨by rw [hT]; rfl⟩
                have HT1 : Aside0 (T.all (·.oneCell') = true) := ⟨by rw [hT]; exact tally_one _ _ _ _⟩
                rw [← hT] at HOf h6
                have H6 := Aside0.mk h6
                clear hT h1 h6
                go_wp2_with (first | (go_at_call 37; refine HOf.out.mono ?_; rintro e1 w5 ⟨rfl, hb5⟩; have HM5 := Aside0.mk (row_blk (row_blk HMp.out hb5) (below_alloc (Below.refl _ _) (.cells T 56))); have HB5 := Aside0.mk (below_alloc (below_step HB.out hb5) (.cells T 56)); have hlk := mp_look HM5.out (x := 0) (by decide); rw [HZ.out] at hlk; clear hb5) | ((with_reducible refine L.wpList_store_new rfl 56 _ _ rfl 56 _ T ?hx ?hy H6.out ?ho HT1.out ?_); (case hx => rfl); (case hy => rfl); (case ho => rw [HTs.out]; kernel_rfl)))
                go_ret
                exact ⟨by first | rfl | (simp; done) | (simp; omega), HB5.out⟩
end Go.Proofs.Ytbbpjjbgdemmpaa.PStat
