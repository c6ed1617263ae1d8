/- stat.Kinds: the walk. -/
import Derived.Test.YtbbpjjbgdemmpaaSc
namespace Go.Proofs.Ytbbpjjbgdemmpaa.PStat
open Go.RowKit Go.Proofs.YtbbpjjbgdemmpaaW.PrintWords Go.Proofs.YtbbpjjbgdemmpaaW.PrintLast Go.Proofs.YtbbpjjbgdemmpaaW.PrintMore
set_option linter.unusedVariables false
set_option linter.unusedSimpArgs false
theorem kc_nil : kc (cK []) = #[.int .i64 0, .int .i64 0, .int .i64 0, .int .i64 0, .int .i64 0, .int .i64 0, .int .i64 0, .int .i64 0, .int .i64 0, .int .i64 0, .int .i64 0, .int .i64 0, .int .i64 0, .int .i64 0, .int .i64 0, .int .i64 0, .int .i64 0, .int .i64 0] := by rfl
set_option maxHeartbeats 8000000 in
theorem kinds_calls (A0 : Option Addr) (c0 : Nat) (l : List S54) (w : World) (hr0 : Kd.C k54 w A0 l.length l) (hm : l.length ≤ 1000000000) :
    Calls Try.prog 35 #[.slice A0 l.length c0] w fun e w' => e = .returned (.agg (kc (cK l))) ∧ Below w.heap.size w w' := by
  have HR := Aside0.mk hr0
  clear hr0
  go_enter Try.func35, Try.ntmps35
  go_wp2
  go_loopg [9] (l.length + 1) (fun kq v8 w' => ∃ j : Nat, v8 = .int .i64 (j : Int) ∧ Aside0 (j + kq = l.length + 1 ∧ j ≤ l.length) ∧ Aside0 (w'.heap[w.heap.size]? = some (.cells (kc (cK [])) 45 (0, 0))) ∧ Aside0 (w'.heap[w.heap.size + 1]? = some (.cells (kc (cK (l.take j))) 45 (0, 0))) ∧ Aside0 (Below w.heap.size w w'))
  case atStart =>
    refine ⟨0, rfl, ⟨by omega, by omega⟩, ⟨?_⟩, ⟨?_⟩, ⟨below_alloc (below_alloc (Below.refl _ _) _) _⟩⟩
    · rw [kc_nil]; exact blk_alloc (blk_new w _) _
    · rw [List.take_zero, kc_nil]
      have := fun o1 o2 => blk_new (w.alloc o1) o2
      simp only [World.size_alloc] at this
      exact this _ _
  case round =>
    obtain ⟨j, rfl, HJ, HZ, HT, HB⟩ := hrel
    have hj := HJ.out.2
    cases gk with
    | zero => exact absurd HJ.out.1 (by omega)
    | succ k1 =>
      by_cases c : j < l.length
      · have q0 : (j : Int) < (l.length : Int) := by omega
        obtain ⟨ad, CS, A8, c8, A14, c14, rfl, hcell, E, hC8, hl8⟩ := elem HR.out j c
        have HCL : Aside0 (∀ q v, CS[q]? = some v → wr.cell? ((ad.add (j * 18)).add q) = some v) := ⟨fun q v hq => pw_cell_below HB.out (hcell q v hq)⟩
        have HE := Aside0.mk E
        have e1 := E.c1
        have hlt := blk_lt HT.out
        have hne : w.heap.size + 1 ≠ wr.heap.size := by omega
        obtain ⟨q, hq⟩ : ∃ q, q = kk l[j] := ⟨_, rfl⟩
        have hq18 : q < 18 := by rw [hq]; exact kk_lt _
        obtain ⟨n, hn⟩ : ∃ n, n = cK (l.take j) q := ⟨_, rfl⟩
        have hnj : n ≤ j := by rw [hn]; exact cp_le _ _ _
        have HST : Aside0 ((kc (cK (l.take j))).setIfInBounds q (.int .i64 ((n : Int) + 1)) = kc (cK (l.take (j + 1)))) := ⟨kc_step l j c q hq.symm _ (by rw [hn])⟩
        have HQ := Aside0.mk hq
        have HCall : Aside0 (Calls Try.prog 18 #[.int .i64 (kd l[j])] (wr.alloc (.cells CS 54)) fun e w4 => e = .returned (.string (wordOf (kd l[j]))) ∧
            Aside0 (w4.heap[w.heap.size]? = some (.cells (kc (cK [])) 45 (0, 0))) ∧ Aside0 (w4.heap[w.heap.size + 1]? = some (.cells (kc (cK (l.take j))) 45 (0, 0))) ∧ Aside0 (Below w.heap.size w w4)) := ⟨(word_calls _ _).mono (by
          rintro e w4 ⟨rfl, hb4⟩
          exact ⟨rfl, ⟨blk_below (blk_alloc HZ.out _) hb4⟩, ⟨blk_below (blk_alloc HT.out _) hb4⟩, ⟨below_step (below_alloc HB.out _) hb4⟩⟩)⟩
        have hcq := kc_at (cK (l.take j)) q hq18
        rw [← hn] at hcq
        have HCQ := Aside0.mk hcq
        clear hcell E hC8 HT HZ hn hcq
        by_cases hk : 1 ≤ kd l[j] ∧ kd l[j] ≤ 17
        · have hkq : kd l[j] = (q : Int) := by rw [hq]; unfold kk; rw [if_pos hk]; omega
          have hw := word_yes hk.1 hk.2
          rw [hkq] at e1 HCall hw
          clear hq hk hkq
          have hw2 : ¬ (wordOf (q : Int)).toList = [] := fun h => by rw [h] at hw; cases hw
          have i0 : (0 : Int) ≤ (q : Int) := by omega
          have i1 : (q : Int) < 18 := by omega
          go_wp2_with (first | ((with_reducible refine L.wpList_load_cells (o := ⟨some 12, _, _, _, _, _⟩) ?hgd 54 (.tmp 11) ?ho (ad.add (j * 18)) ?hx CS _ HCL.out Try.underlying54 ?hd (hi54 HE.out.sz) ?_); (case hgd => rfl); (case ho => rfl); (case hx => rfl); (case hd => rfl)) | ((with_reducible refine L.wpList_store_new rfl 54 _ _ rfl 54 _ CS ?hx ?hy (hi54 HE.out.sz) ?ho HE.out.one ?_); (case hx => rfl); (case hy => rfl); (case ho => rw [HE.out.sz]; kernel_rfl)) | (go_at_call 18; refine HCall.out.mono ?_; rintro e w4 ⟨rfl, HZ4, HT4, HB4⟩; have u2 : w4.cell? ⟨w.heap.size + 1, q, none⟩ = some (.int .i64 (n : Int)) := (blk_cell HT4.out q).trans HCQ.out; have g2 := blk_frozen HT4.out q))
          go_roundg k1
          case measure => omega
          case rel =>
            exact ⟨j + 1, by go_num, ⟨by have := HJ.out.1; omega, by omega⟩, ⟨blk_far HZ4.out (by show w.heap.size ≠ _; simp) _⟩, ⟨blk_put HT4.out q _ HST.out⟩, ⟨below_set HB4.out (Nat.le_succ _)⟩⟩
        · have hq0 : q = 0 := by rw [hq]; unfold kk; rw [if_neg hk]
          have hw := word_no hk
          rw [hw] at HCall
          clear hq hk hw
          subst hq0
          go_wp2_with (first | ((with_reducible refine L.wpList_load_cells (o := ⟨some 12, _, _, _, _, _⟩) ?hgd 54 (.tmp 11) ?ho (ad.add (j * 18)) ?hx CS _ HCL.out Try.underlying54 ?hd (hi54 HE.out.sz) ?_); (case hgd => rfl); (case ho => rfl); (case hx => rfl); (case hd => rfl)) | ((with_reducible refine L.wpList_store_new rfl 54 _ _ rfl 54 _ CS ?hx ?hy (hi54 HE.out.sz) ?ho HE.out.one ?_); (case hx => rfl); (case hy => rfl); (case ho => rw [HE.out.sz]; kernel_rfl)) | (go_at_call 18; refine HCall.out.mono ?_; rintro e w4 ⟨rfl, HZ4, HT4, HB4⟩; have u2 : w4.cell? ⟨w.heap.size + 1, 0, none⟩ = some (.int .i64 (n : Int)) := (blk_cell HT4.out 0).trans HCQ.out; have g2 := blk_frozen HT4.out 0))
          go_roundg k1
          case measure => omega
          case rel =>
            exact ⟨j + 1, by go_num, ⟨by have := HJ.out.1; omega, by omega⟩, ⟨blk_far HZ4.out (by show w.heap.size ≠ _; simp) _⟩, ⟨blk_put HT4.out 0 _ HST.out⟩, ⟨below_set HB4.out (Nat.le_succ _)⟩⟩
      · have q0 : ¬ (j : Int) < (l.length : Int) := by omega
        obtain rfl : j = l.length := by omega
        rw [List.take_length] at HT
        have h6 : (Try.prog.info? 45).map (·.size) = some (kc (cK l)).size := by rw [kc_size]; kernel_rfl
        go_wp2_with (first | ((with_reducible refine wpList_load_row (o := ⟨some 25, _, _, _, _, _⟩) ?hgd 45 (.tmp 3) ?ho (w.heap.size + 1) ?hx 45 (kc (cK l)) (0, 0) _ HT.out Try.underlying45 ?hd h6 ?_); (case hgd => rfl); (case ho => rfl); (case hx => rfl); (case hd => rfl)) | ((with_reducible refine wpList_store_row rfl 45 _ _ rfl w.heap.size (kc (cK l)) ?hx ?hy 45 _ HZ.out h6 ?ho ?h1 ?_); (case hx => rfl); (case hy => rfl); (case ho => rw [kc_size, kc_size]); (case h1 => exact kc_one _)))
        exact bodyPost_ret (v := .agg (kc (cK l))) (L.results_c Try.results35 _ _ w.heap.size 45 (kc (cK l)) (0, 0) _ rfl (setRow_heap _ _ _ _ _ _ HZ.out) Try.underlying45 rfl h6) rfl ⟨rfl, below_row HB.out (Nat.le_refl _) _⟩
end Go.Proofs.Ytbbpjjbgdemmpaa.PStat
