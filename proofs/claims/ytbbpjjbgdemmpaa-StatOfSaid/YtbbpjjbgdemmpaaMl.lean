/- StatOf: the walk. -/
import Derived.Test.YtbbpjjbgdemmpaaMf
import Derived.Deep.CutRange
import Derived.Deep.RegionWith
import Derived.Deep.RegionHeld3
namespace Go.Proofs.Ytbbpjjbgdemmpaa.PStat
open Go.RowKit Go.Proofs.YtbbpjjbgdemmpaaW.PrintWords Go.Proofs.YtbbpjjbgdemmpaaW.PrintLast Go.Proofs.YtbbpjjbgdemmpaaW.PrintMore
set_option linter.unusedVariables false
set_option linter.unusedSimpArgs false
structure Wf (w : World) (tb xb : Nat) (T K CS : Array Value) (W : World) : Prop where
  T : W.heap[tb]? = some (.cells T 56 (0, 0))
  K : W.heap[tb + 1]? = some (.cells K 45 (0, 0))
  X : W.heap[xb]? = some (.cells CS 54 (0, 0))
  B : Below w.heap.size w W
theorem genw {P : Program} {c : Code} {Q : Exit → Act → World → Prop} {a : Act} (w : World) {F : World → Prop} (hF : F w) (h : ∀ W, F W → c.wp P Q a W) : c.wp P Q a w := h w hF
theorem Wf.setT {w : World} {tb xb : Nat} {T K CS : Array Value} {W : World} (h : Wf w tb xb T K CS W) (hw : w.heap.size ≤ tb) (hx : xb ≠ tb) (i : Nat) (v : Value) : Wf w tb xb (T.setIfInBounds i v) K CS (W.setCell ⟨tb, i, none⟩ v) :=
  ⟨blk_set h.T i v, blk_far h.K (by show tb + 1 ≠ tb; omega) _, blk_far h.X (by show xb ≠ tb; exact hx) _, below_set h.B hw⟩
theorem Wf.setK {w : World} {tb xb : Nat} {T K CS : Array Value} {W : World} (h : Wf w tb xb T K CS W) (hw : w.heap.size ≤ tb) (hx : xb ≠ tb + 1) (i : Nat) (v : Value) : Wf w tb xb T (K.setIfInBounds i v) CS (W.setCell ⟨tb + 1, i, none⟩ v) :=
  ⟨blk_far h.T (by show tb ≠ tb + 1; omega) _, blk_set h.K i v, blk_far h.X (by show xb ≠ tb + 1; exact hx) _, below_set h.B (by omega)⟩
theorem tally_set0 (a b c d : Nat) : (tally a b c d).setIfInBounds 0 (.int .i64 ((a : Int) + 1)) = tally (a + 1) b c d := rfl
theorem tally_set1 (a b c d : Nat) : (tally a b c d).setIfInBounds 1 (.int .i64 ((b : Int) + 1)) = tally a (b + 1) c d := rfl
theorem tally_set2 (a b c d : Nat) : (tally a b c d).setIfInBounds 2 (.int .i64 ((c : Int) + 1)) = tally a b (c + 1) d := rfl
theorem tally_set3 (a b c d : Nat) : (tally a b c d).setIfInBounds 3 (.int .i64 ((d : Int) + 1)) = tally a b c (d + 1) := rfl
theorem w1_ {x : S54} (h : (er x != 0) = false) (h2 : kd x = 4) : isF x = false ∧ isW x = true ∧ isS x = false := cls2 h (Or.inl h2)
theorem w2_ {x : S54} (h : (er x != 0) = false) (h2 : (kd x == 4) = true ∨ (kd x == 6) = true) : isF x = false ∧ isW x = true ∧ isS x = false := cls2 h (by simpa using h2)
theorem w3_ {x : S54} (h : (er x != 0) = false) (h2 : (kd x == 4) = false ∧ (kd x == 6) = false) (h3 : kd x = 8) : isF x = false ∧ isW x = false ∧ isS x = true := cls3 h (by simpa using h2) (Or.inl h3)
theorem w4_ {x : S54} (h : (er x != 0) = false) (h2 : (kd x == 4) = false ∧ (kd x == 6) = false) (h3 : (kd x == 8) = true ∨ (kd x == 9) = true) : isF x = false ∧ isW x = false ∧ isS x = true := cls3 h (by simpa using h2) (by simpa using h3)
theorem w5_ {x : S54} (h : (er x != 0) = false) (h2 : (kd x == 4) = false ∧ (kd x == 6) = false) (h3 : (kd x == 8) = false ∧ (kd x == 9) = false) : isF x = false ∧ isW x = false ∧ isS x = false := cls4 h (by simpa using h2) (by simpa using h3)
theorem nz (x : S54) : (er x != 0) = isF x := by
  unfold isF
  by_cases h : er x = 0 <;> simp [h]
set_option maxHeartbeats 16000000 in
set_option maxRecDepth 100000 in
theorem law11 (A0 : Option Addr) (c0 : Nat) (l : List S54) (e : Int) (w : World) (hr0 : Kd.C k54 w A0 l.length l) (hm : l.length ≤ 1000000000000) (hwf : ∀ x ∈ l, (Lit.int .i64 (er x)).wf = true) (hwe : (Lit.int .i64 e).wf = true) :
    Calls Try.prog 11 #[.slice A0 l.length c0, .int .i64 e] w fun e w' => e = .returned (.bool true) ∧ Below w.heap.size w w' := by
  have HR := Aside0.mk hr0
  have HWF := Aside0.mk hwf
  have HWE := Aside0.mk hwe
  have HM := Aside0.mk hm
  have HA := Aside0.mk (sumplaw39_awake.t33 w)
  clear hr0 hwf hwe hm
  cases hf : few l with
  | false =>
    go_enter Try.func11, Try.ntmps11
    go_wp2_with (first | (go_at_call 33; refine HA.out.mono ?_; rintro e w1 ⟨rfl, hb1⟩; have HB1 := Aside0.mk hb1; clear hb1) | (go_at_call 34; refine (few_calls A0 c0 l w1 (Kd.C_below HR.out HB1.out) (by have := HM.out; omega)).mono ?_; rintro e w2 ⟨rfl, hb2⟩; rw [hf]; have HB2 := Aside0.mk (below_step HB1.out hb2); clear hb2))
    go_ret
    exact ⟨rfl, HB2.out⟩
  | true =>
    have HF := Aside0.mk hf
    have hlen := (few_el hf).1
    have HM2 : Aside0 (l.length < 1000000) := ⟨by omega⟩
    go_enter Try.func11, Try.ntmps11
    go_wp2_with (first | (go_at_call 33; refine HA.out.mono ?_; rintro e w1 ⟨rfl, hb1⟩; have HB1 := Aside0.mk hb1; clear hb1) | (go_at_call 34; refine (few_calls A0 c0 l w1 (Kd.C_below HR.out HB1.out) (by have := HM.out; omega)).mono ?_; rintro e w2 ⟨rfl, hb2⟩; rw [hf]; have HB2 := Aside0.mk (below_step HB1.out hb2); clear hb2))
    clear hf
    obtain ⟨tb, htb⟩ : ∃ tb, tb = w2.heap.size := ⟨_, rfl⟩
    rw [← htb]
    have hwt : w.heap.size ≤ tb := by rw [htb]; exact HB2.out.size
    have Htb := Aside0.mk htb
    clear htb
    go_loopg [22, 7, 8, 9] (l.length + 1) (fun kq v22 v7 v8 v9 w' => ∃ j : Nat, v22 = .int .i64 (j : Int) ∧ v7 = .int .i64 (sI (l.take j) : Int) ∧ v8 = .int .i64 (sO (l.take j) : Int) ∧ v9 = .int .i64 (cE (l.take j) e : Int) ∧ Aside0 (j + kq = l.length + 1 ∧ j ≤ l.length) ∧ Aside0 (w'.heap[tb]? = some (.cells (tally j (nF (l.take j)) (nW (l.take j)) (nS (l.take j))) 56 (0, 0))) ∧ Aside0 (w'.heap[tb + 1]? = some (.cells (kc (cK (l.take j))) 45 (0, 0))) ∧ Aside0 (Below w.heap.size w w'))
    case atStart =>
      refine ⟨0, rfl, rfl, rfl, rfl, ⟨by omega, by omega⟩, ⟨?_⟩, ⟨?_⟩, ⟨below_alloc (below_alloc HB2.out _) _⟩⟩
      · rw [Htb.out]; exact blk_alloc (blk_new w2 _) _
      · rw [List.take_zero, kc_nil, Htb.out]
        have := fun o1 o2 => blk_new (w2.alloc o1) o2
        simp only [World.size_alloc] at this
        exact this _ _
    case round =>
      obtain ⟨j, rfl, rfl, rfl, rfl, HJ, HT, HK, HB⟩ := hrel
      have hj := HJ.out.2
      cases gk with
      | zero => exact absurd HJ.out.1 (by omega)
      | succ k1 =>
        by_cases c : j < l.length
        · have q0 : (j : Int) < (l.length : Int) := by omega
          obtain ⟨ad, CS, A8, c8, A14, c14, rfl, hcell, E, hC8, hl8⟩ := elem HR.out j c
          have HCL : Aside0 (∀ q v, CS[q]? = some v → wr.cell? ((ad.add (j * 18)).add q) = some v) := ⟨fun q v hq => pw_cell_below HB.out (hcell q v hq)⟩
          have HE := Aside0.mk E
          clear hcell hC8 hl8 E
          have hltT := blk_lt HT.out
          have hltK := blk_lt HK.out
          go_upto_region 11 with (first | ((with_reducible refine L.wpList_load_cells (o := ⟨some 25, _, _, _, _, _⟩) ?hgd 54 (.tmp 24) ?ho (ad.add (j * 18)) ?hx CS _ HCL.out Try.underlying54 ?hd (hi54 HE.out.sz) ?_); (case hgd => rfl); (case ho => rfl); (case hx => rfl); (case hd => rfl)) | ((with_reducible refine L.wpList_store_new rfl 54 _ _ rfl 54 _ CS ?hx ?hy (hi54 HE.out.sz) ?ho HE.out.one ?_); (case hx => rfl); (case hy => rfl); (case ho => rw [HE.out.sz]; kernel_rfl)))
          obtain ⟨xb, hxb⟩ : ∃ xb, xb = wr.heap.size := ⟨_, rfl⟩
          rw [← hxb]
          have hx1 : xb ≠ tb := by omega
          have hx2 : xb ≠ tb + 1 := by omega
          refine genw _ (F := Wf w tb xb (tally j (nF (l.take j)) (nW (l.take j)) (nS (l.take j))) (kc (cK (l.take j))) CS) ⟨blk_alloc HT.out _, blk_alloc HK.out _, by rw [hxb]; exact blk_new wr _, below_alloc HB.out _⟩ ?_
          clear HT HK HB HCL hltT hltK hxb
          rintro W1 hW1
          have H1 := Aside0.mk hW1
          have e1 := (blk_cell hW1.X 1).trans HE.out.c1
          have t0 : W1.cell? ⟨tb, 0, none⟩ = some (.int .i64 (j : Int)) := (blk_cell hW1.T 0).trans rfl
          have f0 := blk_frozen hW1.T 0
          clear hW1
          go_upto_region 13 with fail
          refine genw _ (F := Wf w tb xb (tally (j + 1) (nF (l.take j)) (nW (l.take j)) (nS (l.take j))) (kc (cK (l.take j))) CS) (by have h := H1.out.setT hwt hx1 0 (.int .i64 ((j : Int) + 1)); rw [tally_set0] at h; exact h) ?_
          clear H1 t0 f0 e1
          rintro W2 hW2
          have H2 := Aside0.mk hW2
          have e9 := (blk_cell hW2.X 9).trans HE.out.c9
          clear hW2
          go_upto_if 36 with fail
          go_cut [8] from 23 to 97 (fun s8 wx => s8 = .int .i64 (sO (l.take (j + 1)) : Int) ∧ Aside0 (Wf w tb xb (tally (j + 1) (nF (l.take (j + 1))) (nW (l.take (j + 1))) (nS (l.take (j + 1)))) (kc (cK (l.take j))) CS wx))
          case first =>
            obtain ⟨a, ha⟩ : ∃ a, a = nF (l.take j) := ⟨_, rfl⟩
            obtain ⟨b, hb⟩ : ∃ b, b = nW (l.take j) := ⟨_, rfl⟩
            obtain ⟨d, hd⟩ : ∃ d, d = nS (l.take j) := ⟨_, rfl⟩
            obtain ⟨so, hso⟩ : ∃ so, so = sO (l.take j) := ⟨_, rfl⟩
            have la : a ≤ j := by rw [ha]; exact cp_le _ _ _
            have lb : b ≤ j := by rw [hb]; exact cp_le _ _ _
            have ld : d ≤ j := by rw [hd]; exact cp_le _ _ _
            have lso : so ≤ 80000 := by rw [hso]; exact Nat.le_trans (sO_le HF.out j (by omega)) (by omega)
            have ldl := ((few_el HF.out).2 j c).1
            have SA : Aside0 (nF (l.take (j + 1)) = a + if isF l[j] then 1 else 0) := ⟨by rw [ha]; exact cp_snoc _ _ _ c⟩
            have SB : Aside0 (nW (l.take (j + 1)) = b + if isW l[j] then 1 else 0) := ⟨by rw [hb]; exact cp_snoc _ _ _ c⟩
            have SD : Aside0 (nS (l.take (j + 1)) = d + if isS l[j] then 1 else 0) := ⟨by rw [hd]; exact cp_snoc _ _ _ c⟩
            have SO : Aside0 (sO (l.take (j + 1)) = so + if isW l[j] then dl l[j] else 0) := ⟨by rw [hso]; exact sO_snoc _ _ c⟩
            rw [← ha, ← hb, ← hd] at H2
            rw [← hso]
            have e8 := (blk_cell H2.out.X 8).trans HE.out.c8
            have t1 : W2.cell? ⟨tb, 1, none⟩ = some (.int .i64 (a : Int)) := (blk_cell H2.out.T 1).trans rfl
            have t2 : W2.cell? ⟨tb, 2, none⟩ = some (.int .i64 (b : Int)) := (blk_cell H2.out.T 2).trans rfl
            have t3 : W2.cell? ⟨tb, 3, none⟩ = some (.int .i64 (d : Int)) := (blk_cell H2.out.T 3).trans rfl
            have f1 := blk_frozen H2.out.T 1
            have f2 := blk_frozen H2.out.T 2
            have f3 := blk_frozen H2.out.T 3
            clear ha hb hd hso
            go_wp2
            · obtain ⟨qF, qW, qS⟩ := cls1 (x := l[j]) (by assumption)
              rw [qF] at SA; rw [qW] at SB SO; rw [qS] at SD
              simp only [if_true, Bool.false_eq_true, if_false, Nat.add_zero] at SA SB SD SO
              go_meet
              rw [SA.out, SB.out, SD.out, SO.out]
              exact ⟨rfl, ⟨by have h := H2.out.setT hwt hx1 1 (.int .i64 ((a : Int) + 1)); rw [tally_set1] at h; exact h⟩⟩
            · obtain ⟨qF, qW, qS⟩ := w1_ (x := l[j]) (by assumption) (by assumption)
              rw [qF] at SA; rw [qW] at SB SO; rw [qS] at SD
              simp only [if_true, Bool.false_eq_true, if_false, Nat.add_zero] at SA SB SD SO
              have hk : kd l[j] = 4 := by assumption
              rw [← hk]
              go_meet
              rw [SA.out, SB.out, SD.out, SO.out]
              exact ⟨by go_num, ⟨by have h := H2.out.setT hwt hx1 2 (.int .i64 ((b : Int) + 1)); rw [tally_set2] at h; exact h⟩⟩
            · obtain ⟨qF, qW, qS⟩ := w2_ (x := l[j]) (by assumption) (by assumption)
              rw [qF] at SA; rw [qW] at SB SO; rw [qS] at SD
              simp only [if_true, Bool.false_eq_true, if_false, Nat.add_zero] at SA SB SD SO
              go_meet
              rw [SA.out, SB.out, SD.out, SO.out]
              exact ⟨by go_num, ⟨by have h := H2.out.setT hwt hx1 2 (.int .i64 ((b : Int) + 1)); rw [tally_set2] at h; exact h⟩⟩
            · obtain ⟨qF, qW, qS⟩ := w3_ (x := l[j]) (by assumption) (by assumption) (by assumption)
              rw [qF] at SA; rw [qW] at SB SO; rw [qS] at SD
              simp only [if_true, Bool.false_eq_true, if_false, Nat.add_zero] at SA SB SD SO
              have hk : kd l[j] = 8 := by assumption
              rw [← hk]
              go_meet
              rw [SA.out, SB.out, SD.out, SO.out]
              exact ⟨rfl, ⟨by have h := H2.out.setT hwt hx1 3 (.int .i64 ((d : Int) + 1)); rw [tally_set3] at h; exact h⟩⟩
            · obtain ⟨qF, qW, qS⟩ := w4_ (x := l[j]) (by assumption) (by assumption) (by assumption)
              rw [qF] at SA; rw [qW] at SB SO; rw [qS] at SD
              simp only [if_true, Bool.false_eq_true, if_false, Nat.add_zero] at SA SB SD SO
              go_meet
              rw [SA.out, SB.out, SD.out, SO.out]
              exact ⟨rfl, ⟨by have h := H2.out.setT hwt hx1 3 (.int .i64 ((d : Int) + 1)); rw [tally_set3] at h; exact h⟩⟩
            · obtain ⟨qF, qW, qS⟩ := w5_ (x := l[j]) (by assumption) (by assumption) (by assumption)
              rw [qF] at SA; rw [qW] at SB SO; rw [qS] at SD
              simp only [if_true, Bool.false_eq_true, if_false, Nat.add_zero] at SA SB SD SO
              go_meet
              rw [SA.out, SB.out, SD.out, SO.out]
              exact ⟨rfl, ⟨H2.out⟩⟩
          case rest =>
            obtain ⟨rfl, H3⟩ := hcut
            clear H2 e9
            go_upto_region 20 with fail
            go_cut [72] from 23 to 97 (fun s72 wx => s72 = .bool (isR l[j]) ∧ Aside0 (Wf w tb xb (tally (j + 1) (nF (l.take (j + 1))) (nW (l.take (j + 1))) (nS (l.take (j + 1)))) (kc (cK (l.take j))) CS wx))
            case first =>
              go_wp2
              · have hk : kd l[j] = 3 := by assumption
                have hr : isR l[j] = true := by unfold isR; rw [decide_eq_true hk]; rfl
                rw [← hk]
                go_meet
                exact ⟨by rw [hr], H3⟩
              · have hk : ¬ kd l[j] = 3 := by assumption
                go_meet
                refine ⟨?_, H3⟩
                unfold isR
                rw [decide_eq_false hk]
                congr 1
                by_cases h5 : kd l[j] = 5 <;> simp [hk, h5]
            case rest =>
              obtain ⟨rfl, H4⟩ := hcut
              clear H3
              go_upto_if 72 with fail
              go_cut [7] from 23 to 97 (fun s7 wx => s7 = .int .i64 (sI (l.take (j + 1)) : Int) ∧ Aside0 (Wf w tb xb (tally (j + 1) (nF (l.take (j + 1))) (nW (l.take (j + 1))) (nS (l.take (j + 1)))) (kc (cK (l.take j))) CS wx))
              case first =>
                obtain ⟨si, hsi⟩ : ∃ si, si = sI (l.take j) := ⟨_, rfl⟩
                have lsi : si ≤ 80000 := by rw [hsi]; exact Nat.le_trans (sI_le HF.out j (by omega)) (by omega)
                have lrl := ((few_el HF.out).2 j c).2
                have SI : Aside0 (sI (l.take (j + 1)) = si + if isR l[j] then rl l[j] else 0) := ⟨by rw [hsi]; exact sI_snoc _ _ c⟩
                obtain ⟨bR, hbR⟩ : ∃ b, b = isR l[j] := ⟨_, rfl⟩
                rw [← hbR] at SI
                rw [← hbR, ← hsi]
                have e14 := (blk_cell H4.out.X 14).trans HE.out.c14
                clear hbR hsi
                cases bR with
                | true =>
                  simp only [if_true] at SI
                  go_wp2
                  go_meet
                  exact ⟨by rw [SI.out] <;> first | rfl | go_num, H4⟩
                | false =>
                  simp only [Bool.false_eq_true, if_false, Nat.add_zero] at SI
                  go_wp2
                  go_meet
                  exact ⟨by rw [SI.out], H4⟩
              case rest =>
                obtain ⟨rfl, H5⟩ := hcut
                clear H4
                go_upto_region 22 with fail
                go_cut [84] from 23 to 97 (fun s84 wx => s84 = .bool (!(decide (1 ≤ kd l[j]) && decide (kd l[j] ≤ 17))) ∧ Aside0 (Wf w tb xb (tally (j + 1) (nF (l.take (j + 1))) (nW (l.take (j + 1))) (nS (l.take (j + 1)))) (kc (cK (l.take j))) CS wx))
                case first =>
                  go_wp2
                  · have h1 : 1 ≤ kd l[j] := by assumption
                    go_meet
                    refine ⟨?_, H5⟩
                    rw [decide_eq_true h1]
                    by_cases h2 : kd l[j] ≤ 17
                    · rw [decide_eq_true h2]; congr 1; simp; omega
                    · rw [decide_eq_false h2]; congr 1; simp; omega
                  · have h1 : kd l[j] < 1 := by assumption
                    go_meet
                    refine ⟨?_, H5⟩
                    rw [decide_eq_false (show ¬ 1 ≤ kd l[j] by omega)]; first | rfl | (congr 1; simp; done) | (congr 1; simp; omega)
                case rest =>
                  obtain ⟨rfl, H6⟩ := hcut
                  clear H5
                  go_upto_if 84 with fail
                  go_cut [12] from 23 to 97 (fun s12 wx => s12 = .int .i64 (kk l[j] : Int) ∧ Aside0 (Wf w tb xb (tally (j + 1) (nF (l.take (j + 1))) (nW (l.take (j + 1))) (nS (l.take (j + 1)))) (kc (cK (l.take j))) CS wx))
                  case first =>
                    by_cases hk : 1 ≤ kd l[j] ∧ kd l[j] ≤ 17
                    · have hq : kd l[j] = ((kk l[j] : Nat) : Int) := by unfold kk; rw [if_pos hk]; omega
                      have hb : (!(decide (1 ≤ kd l[j]) && decide (kd l[j] ≤ 17))) = false := by rw [decide_eq_true hk.1, decide_eq_true hk.2]; rfl
                      rw [hb]
                      have HQ := Aside0.mk hq
                      clear hk hq hb
                      go_wp2
                      go_meet
                      exact ⟨by rw [← HQ.out], H6⟩
                    · have hq : ((kk l[j] : Nat) : Int) = 0 := by unfold kk; rw [if_neg hk]; rfl
                      have hb : (!(decide (1 ≤ kd l[j]) && decide (kd l[j] ≤ 17))) = true := by
                        by_cases h1 : 1 ≤ kd l[j]
                        · rw [decide_eq_true h1, decide_eq_false (fun h2 => hk ⟨h1, h2⟩)]; rfl
                        · rw [decide_eq_false h1]; rfl
                      rw [hb]
                      have HQ := Aside0.mk hq
                      clear hk hq hb
                      go_wp2
                      go_meet
                      exact ⟨by rw [HQ.out], H6⟩
                  case rest =>
                    obtain ⟨rfl, H7⟩ := hcut
                    clear H6
                    obtain ⟨q, hq⟩ : ∃ q, q = kk l[j] := ⟨_, rfl⟩
                    have hq18 : q < 18 := by rw [hq]; exact kk_lt _
                    obtain ⟨n, hn⟩ : ∃ n, n = cK (l.take j) q := ⟨_, rfl⟩
                    have hnj : n ≤ j := by rw [hn]; exact cp_le _ _ _
                    have HST : Aside0 ((kc (cK (l.take j))).setIfInBounds q (.int .i64 ((n : Int) + 1)) = kc (cK (l.take (j + 1)))) := ⟨kc_step l j c q hq.symm _ (by rw [hn])⟩
                    have u2 : wc.cell? ⟨tb + 1, q, none⟩ = some (.int .i64 (n : Int)) := (blk_cell H7.out.K q).trans (by rw [kc_at _ _ hq18, hn])
                    have g2 := blk_frozen H7.out.K q
                    have e9 := (blk_cell H7.out.X 9).trans HE.out.c9
                    have i1 : (q : Int) < 18 := by omega
                    obtain ⟨ne, hne⟩ : ∃ ne, ne = cE (l.take j) e := ⟨_, rfl⟩
                    have lne : ne ≤ j := by rw [hne]; exact cp_le _ _ _
                    have SE : Aside0 (cE (l.take (j + 1)) e = ne + if decide (er l[j] = e) then 1 else 0) := ⟨by rw [hne]; exact cp_snoc _ _ _ c⟩
                    rw [← hq, ← hne]
                    clear hq hn hne
                    have H8 : Aside0 (Wf w tb xb (tally (j + 1) (nF (l.take (j + 1))) (nW (l.take (j + 1))) (nS (l.take (j + 1)))) (kc (cK (l.take (j + 1)))) CS (wc.setCell ⟨tb + 1, q, none⟩ (.int .i64 ((n : Int) + 1)))) := ⟨by
                      have h := H7.out.setK hwt hx2 q (.int .i64 ((n : Int) + 1))
                      rw [HST.out] at h
                      exact h⟩
                    go_wp2
                    · have hb : (er l[j] == e) = true := by assumption
                      rw [decide_eq_true (beq_iff_eq.1 hb)] at SE
                      simp only [if_true] at SE
                      go_roundg k1
                      case measure => omega
                      case rel => exact ⟨j + 1, by go_num, rfl, rfl, by rw [SE.out] <;> first | rfl | go_num, ⟨by have := HJ.out.1; omega, by omega⟩, ⟨H8.out.T⟩, ⟨H8.out.K⟩, ⟨H8.out.B⟩⟩
                    · have hb : (er l[j] == e) = false := by assumption
                      rw [decide_eq_false (beq_eq_false_iff_ne.1 hb)] at SE
                      simp only [Bool.false_eq_true, if_false, Nat.add_zero] at SE
                      go_roundg k1
                      case measure => omega
                      case rel => exact ⟨j + 1, by go_num, rfl, rfl, by rw [SE.out], ⟨by have := HJ.out.1; omega, by omega⟩, ⟨H8.out.T⟩, ⟨H8.out.K⟩, ⟨H8.out.B⟩⟩
        · have q0 : ¬ (j : Int) < (l.length : Int) := by omega
          obtain rfl : j = l.length := by omega
          rw [List.take_length] at HT HK
          rw [List.take_length]
          go_upto_region 29 with (go_at_call 42; refine (bytes_calls _ c0 l wr (Kd.C_below HR.out HB.out) HF.out).mono ?_; rintro e1 w3 ⟨rfl, hb3⟩; have HT3 := Aside0.mk (blk_below HT.out hb3); have HK3 := Aside0.mk (blk_below HK.out hb3); have HB3 := Aside0.mk (below_step HB.out hb3); clear hb3)
          have F3 : Aside0 (FF l tb w w3.drew) := ⟨ff_drew ⟨HT3.out, HK3.out, HB3.out⟩⟩
          obtain ⟨KS, hKS⟩ : ∃ KS, KS = (kc (cK l)).toList := ⟨_, rfl⟩
          have hKA : KS.toArray = kc (cK l) := by rw [hKS]
          have hu45 := Try.underlying45
          have hi45 := kc_info l
          have he45 := eq45K l
          have GC : Aside0 (∀ W, FF l tb w W → FC_ l tb KS W) := ⟨fun W h => by rw [hKS]; exact gg_cells h⟩
          have HOf : Aside0 (∀ W, Aside0 (FF l tb w W) → Calls Try.prog 37 #[.slice A0 l.length c0] W fun e' w4 => e' = .returned (.agg (#[.int .i64 (l.length : Int), .int .i64 (nF l : Int), .int .i64 (nW l : Int), .int .i64 (nS l : Int), .int .i64 0, .int .i64 0] : Array Value)) ∧ Aside0 (FF l tb w w4)) := ⟨fun W h => (of_calls _ c0 l W (Kd.C_below HR.out h.out.2.2) (by have := HM2.out; omega)).mono (by
            rintro e' w4 ⟨rfl, hb4⟩
            exact ⟨rfl, ⟨ff_below h.out hb4⟩⟩)⟩
          have HKi : Aside0 (∀ W, Aside0 (FF l tb w W) → Calls Try.prog 35 #[.slice A0 l.length c0] W fun e' w4 => e' = .returned (.agg KS.toArray) ∧ Aside0 (FF l tb w w4)) := ⟨fun W h => by
            rw [hKA]
            refine (kinds_calls _ c0 l W (Kd.C_below HR.out h.out.2.2) (by have := HM2.out; omega)).mono ?_
            rintro e' w4 ⟨rfl, hb4⟩
            exact ⟨rfl, ⟨ff_below h.out hb4⟩⟩⟩
          have HEr : Aside0 (∀ W, Aside0 (FF l tb w W) → Calls Try.prog 36 #[.slice A0 l.length c0] W fun e' w4 => e' = .returned (.map (some W.heap.size)) ∧ Aside0 (FF l tb w w4) ∧ (Instr.lookup 47 (.map (some W.heap.size)) (.int .i64 e) false).run Try.prog w4 = .ok (.int .i64 (cE l e : Int)) w4) := ⟨fun W h => (errors_calls _ c0 l W (Kd.C_below HR.out h.out.2.2) HM2.out HWF.out).mono (by
            rintro e' w4 ⟨rfl, hm4, hb4⟩
            exact ⟨rfl, ⟨ff_below h.out hb4⟩, mp_look hm4 HWE.out⟩)⟩
          have CA := Aside0.mk (GC.out _ F3.out)
          rw [← hKA] at he45
          rw [← hKS] at hi45
          clear HT3 HK3 HT HK hKS hKA hlen hwt hj HF HB HA HWF HWE HM HM2 HB1 HB2 HR HJ Htb HB3 q0
          go_region_held3 (fun w' => w'.cell? ⟨tb, 0, none⟩ = some (.int .i64 (l.length : Int)) ∧ w'.cell? ⟨tb, 1, none⟩ = some (.int .i64 (nF l : Int)) ∧ w'.cell? ⟨tb, 2, none⟩ = some (.int .i64 (nW l : Int)) ∧ w'.cell? ⟨tb, 3, none⟩ = some (.int .i64 (nS l : Int)) ∧ w'.cell? ⟨tb, 4, none⟩ = some (.int .i64 0) ∧ w'.cell? ⟨tb, 5, none⟩ = some (.int .i64 0) ∧ w'.rangeAt (tb + 1) 0 KS) (first | exact CA.out | exact CB.out | exact CD.out | exact CE.out) (first | (go_at_call 37; (with_reducible refine (HOf.out _ F3).mono ?_); rintro e1 w4 ⟨rfl, F4⟩; have CB := Aside0.mk (GC.out _ F4.out)) | (go_at_call 35; (with_reducible refine (HKi.out _ F4).mono ?_); rintro e1 w5 ⟨rfl, F5⟩; have CD := Aside0.mk (GC.out _ F5.out)) | (go_at_call 36; (with_reducible refine (HEr.out _ F5).mono ?_); rintro e1 w6 ⟨rfl, F6, hlk⟩; have CE := Aside0.mk (GC.out _ F6.out)))
          go_wp2
          go_ret
          exact ⟨by first | rfl | (simp; done) | (simp [*]; done), F6.out.2.2⟩
end Go.Proofs.Ytbbpjjbgdemmpaa.PStat
