/- palloc: Taken.Give, Taken.Take. -/
import Derived.Test.YtlojhiacaleokaaDoorPw
namespace Go.Proofs.YtlojhiacaleokaaDoor.Pa
open Go.RowKit Go.Proofs.YtlojhiacaleokaaDoorW.PrintWords Go.Proofs.YtlojhiacaleokaaDoorW.PrintLast Go.Proofs.YtlojhiacaleokaaDoorW.PrintMore
set_option linter.unusedVariables false
set_option linter.unusedSimpArgs false
theorem wrap_i64_is (x : Int) : IntKind.i64.wrap x = wrap64 x := by rw [IntKind.wrap_i64]; unfold wrap64; first | rfl | omega
theorem give_mem {w : World} {S : Nat → Prop} {A : Option Addr} {c : Nat} {L : List Nat} (hV : Vw w S A c L) (hS : ∀ k, S k → k < w.heap.size) (k : Nat) (hk : k < L.length) (hsm : L.length ≤ 1048576) :
    ∃ A' c' W2, (Builtin.append_ #[22, 22] 22 #[.slice A k k, .slice (if c = k + 1 then A else A.map (·.add (k + 1))) (L.length - (k + 1)) (c - (k + 1))]).run Tryd.prog w.drew = .ok (.slice A' (L.length - 1) c') W2 ∧
      Below w.heap.size w W2 ∧ Vw W2 S A' c' (L.take k ++ L.drop (k + 1)) := by
  have hr := hV.row
  have hlen := vals_len L
  rw [← hlen] at hr
  have hC0 := Kd.C_drop (c := c) hr (m := k + 1) (by omega) (by rw [hlen]; exact hV.len)
  have hT0 := Kd.C_take hr (m := k) (by omega)
  have e1 : (vals L).drop (k + 1) = vals (L.drop (k + 1)) := by simp [vals]
  have e2 : (vals L).take k = vals (L.take k) := by simp [vals]
  have l1 : (L.drop (k + 1)).length = L.length - (k + 1) := List.length_drop
  have l2 : (L.take k).length = k := by rw [List.length_take]; omega
  rw [e1, vals_len, l1, show (k + 1) * (Kd.int .i64).sz = k + 1 by show (k + 1) * 1 = k + 1; omega] at hC0
  rw [e2, vals_len, l2] at hT0
  have hAn : ∃ a, A = some a := by
    cases hA : A with
    | none =>
      have := hV.nil hA
      have := hV.len
      omega
    | some a => exact ⟨a, rfl⟩
  obtain ⟨a, rfl⟩ := hAn
  obtain ⟨ti, hi, hz, hs, hb⟩ := inf3
  by_cases cl : L.length = k + 1
  · have ee : L.take k ++ L.drop (k + 1) = L.take k := by rw [List.drop_eq_nil_of_le (by omega), List.append_nil]
    refine ⟨some a, k, w.drew, ?_, below_drew (Below.refl _ _), ?_⟩
    · have e0 : L.length - (k + 1) = 0 := by omega
      have e9 : L.length - 1 = k := by omega
      rw [e0, e9]
      by_cases cc : c = k + 1
      · rw [if_pos cc]
        simp [Builtin.append_, run_underlying Tryd.underlying22, sizeOf, typeInfo, hi, Builtin.lenOf, Builtin.firstCells, loadCells, loadCellsFrom, storeCells]
      · rw [if_neg cc]
        simp [Builtin.append_, run_underlying Tryd.underlying22, sizeOf, typeInfo, hi, Builtin.lenOf, Builtin.firstCells, loadCells, loadCellsFrom, storeCells]
    · rw [ee]
      refine ⟨by rw [l2]; exact Nat.le_refl _, by rw [l2]; exact hT0, hV.out, fun h => by cases h⟩
  · have hcc : ¬ (c = k + 1) := by have := hV.len; omega
    rw [if_neg hcc] at hC0 ⊢
    have hnews : ∀ (j x : Nat), (L.drop (k + 1))[j]? = some x → w.drew.cell? ((a.add (k + 1)).add j) = some (.int .i64 (x : Int)) := by
      intro j x hj
      refine cells_of hC0 rfl l1 j _ ?_
      simp [List.getElem?_map] at hj ⊢
      exact ⟨x, hj, rfl⟩
    obtain ⟨cap3, cs, q1, q2, q3⟩ := app_view w.drew (some a) k (L.take k) l2 hT0 (fun h => by cases h) (a.add (k + 1)) (L.length - (k + 1)) (c - (k + 1)) (L.drop (k + 1)) l1 hnews (by omega) (by omega)
    have e3 : k + (L.length - (k + 1)) = L.length - 1 := by omega
    rw [e3] at q1 q2
    have hll : (L.take k ++ L.drop (k + 1)).length = L.length - 1 := by rw [List.length_append, l1, l2]; omega
    refine ⟨some ⟨w.drew.heap.size, 0, none⟩, cap3, _, q1, below_alloc (below_drew (below_drew (Below.refl _ _))) _, ⟨by rw [hll]; exact q2, ?_, ?_, fun h => by cases h⟩⟩
    · refine C_of_cells (by omega) fun j x hj => ?_
      have hnew := blk_new w.drew.drew (.cells cs 3)
      have := cell_of_row _ w.heap.size j _ _ _ hnew
      rw [show (⟨w.drew.heap.size, 0, none⟩ : Addr).add j = ⟨w.heap.size, j, none⟩ by simp [Addr.add]; intro h0; omega]
      exact this.trans (q3 j x hj)
    · intro ad ha
      injection ha with ha
      subst ha
      refine ⟨fun hs' => ?_, ?_⟩
      · have h9 : w.heap.size < w.heap.size := hS _ hs'
        omega
      · simp [World.alloc]
theorem TS.set {w W2 : World} {S : Nat → Prop} {t n : Nat} {L L' : List Nat} {A A' : Option Addr} {c c' : Nat} (h : TS w S t n L) (hB : Below w.heap.size w W2) (hV : Vw W2 S A' c' L') (hs : L'.Pairwise (· < ·)) (hi : In n L') (h0 : w.heap[t]? = some (.cells #[.int .i64 (n : Int), .slice A L.length c] 38 (0, 0))) :
    TS (W2.setCell ⟨t, 1, none⟩ (.slice A' L'.length c')) S t n L' ∧ Fr t t w (W2.setCell ⟨t, 1, none⟩ (.slice A' L'.length c')) := by
  have ht := h.lt
  have h1 := (hB.block t ht).trans h0
  refine ⟨⟨⟨A', c', ?_, hV.move ⟨by simp, fun k hk hn => Below.heap_setCell W2 ⟨t, 1, none⟩ _ k (fun e => hn (by rw [e]; exact h.st))⟩⟩, h.st, hs, hi, h.n1⟩, (Fr.of hB).setb 1 _⟩
  rw [heap_set h1]
  rfl
set_option maxHeartbeats 2000000 in
theorem TS.give {w : World} {S : Nat → Prop} {t n : Nat} {L : List Nat} (h : TS w S t n L) (hS : ∀ k, S k → k < w.heap.size) (i : Int) :
    Calls Tryd.prog 14 #[.pointer (some ⟨t, 0, none⟩), .int .i64 i] w fun e w' => e = .returned (.bool (hasL L i)) ∧ TS w' S t n (giveL L i) ∧ Fr t t w w' := by
  obtain ⟨A, c, h1, h2⟩ := h.ex
  have hc1 : w.cell? ⟨t, 1, none⟩ = some (.slice A L.length c) := blk_cell h1 1
  have HV := hid h2
  have HT := hid h
  have H1 := hid h1
  have HS := hid hS
  clear h h1 h2 hS
  go_enter Tryd.func14, Tryd.ntmps14
  go_wp2
  go_loopg [12] (L.length + 1) (fun kq v12 w' => ∃ j : Nat, v12 = .int .i64 (j : Int) ∧ Hid (j + kq = L.length + 1 ∧ j ≤ L.length) ∧ Hid (∀ x ∈ L.take j, (x : Int) ≠ i) ∧ w' = w)
  case atStart => exact ⟨0, rfl, hid ⟨by omega, by omega⟩, hid (by simp), rfl⟩
  case round =>
    obtain ⟨k, rfl, HJ, HN, rfl⟩ := hrel
    have hk := HJ.out.2
    cases gk with
    | zero => exact absurd HJ.out.1 (by omega)
    | succ k1 =>
      by_cases cj : k < L.length
      · have c4b0 : decide (k < L.length) = true := decide_eq_true cj
        obtain ⟨ad, rfl, hx⟩ := Kd.at_int HV.out.row (k : Int) (by omega) (by omega)
        rw [Int.toNat_natCast, vals_rd L k cj] at hx
        have p0 : (0 ≤ (k : Int)) = True := eq_true (by omega)
        have q0 : ((k : Int) < (L.length : Int)) = True := eq_true (by omega)
        have hw : wrap64 ((k : Int) + 1) = ((k + 1 : Nat) : Int) := by
          have := HT.out.sm
          rw [wrap_small _ (by omega) (by omega)]; rfl
        have HW := hid hw
        clear hw
        obtain ⟨x, hxe⟩ : ∃ x, L[k] = x := ⟨_, rfl⟩
        have HXE := hid hxe
        have htake : Hid (L.take (k + 1) = L.take k ++ [x]) := hid (by rw [← hxe]; exact List.take_succ_eq_append_getElem cj)
        rw [hxe] at hx
        clear hxe
        by_cases ci : (x : Int) = i
        · have cb : ((x : Int) == i) = true := by simpa using ci
          have HH : Hid (hasL L i = true) := by
            refine hid ?_
            unfold hasL
            rw [decide_eq_true_iff, ← ci, Int.toNat_natCast, ← HXE.out]
            exact List.getElem_mem _
          have hD : giveL L i = L.take k ++ L.drop (k + 1) := by
            unfold giveL
            rw [← ci, Int.toNat_natCast]
            exact (del_at L x k HT.out.sorted cj HXE.out).symm
          obtain ⟨A', c', W2, r1, r2, r3⟩ := give_mem HV.out HS.out k cj HT.out.sm
          rw [← hD] at r3
          have hll : (giveL L i).length = L.length - 1 := by
            rw [hD, List.length_append, List.length_take, List.length_drop]; omega
          have hp := TS.set HT.out r2 r3 (HT.out.sorted.filter _) (In_delL HT.out.inn _) H1.out
          rw [hll] at hp
          have HP := hid hp
          have htl := HT.out.lt
          have hcA : wr.drew.cell? ⟨t, 1, none⟩ = some (.slice (some ad) L.length c) := hc1
          have hW2 : W2.heap[t]? = some (.cells #[.int .i64 (n : Int), .slice (some ad) L.length c] 38 (0, 0)) := (r2.block t htl).trans H1.out
          have hcC : W2.cell? ⟨t, 1, none⟩ = some (.slice (some ad) L.length c) := blk_cell hW2 1
          have hfz : W2.frozen? ⟨t, 1, none⟩ = false := blk_frozen hW2 1
          have s27 := cut3 (some ad) L.length c k (Nat.le_trans hk HV.out.len)
          have s34 := cutlo (some ad) L.length c (k + 1) cj
          obtain ⟨A5, hA5⟩ : ∃ A5, (if c = k + 1 then (some ad) else (some ad : Option Addr).map (·.add (k + 1))) = A5 := ⟨_, rfl⟩
          rw [hA5] at s34 r1
          obtain ⟨K1, hK1⟩ : ∃ K1 : Int, ((k + 1 : Nat) : Int) = K1 := ⟨_, rfl⟩
          have hwk : wrap64 ((k : Int) + 1) = K1 := HW.out.trans hK1
          have hwk2 : IntKind.i64.wrap ((k : Int) + 1) = K1 := (wrap_i64_is _).trans hwk
          rw [hK1] at s34
          have R1 := hid r1
          have HKK := hid hK1
          clear r1 r2 r3 hW2 hll hp hD hA5 hK1 ci
          go_upto_region 5 with fail
          go_region_law (first | (refine step_append_run rfl (.tmp 27) (.tmp 34) 22 22 rfl _ _ rfl rfl _ _ R1.out ?_))
          all_goals (go_wp2; go_ret; exact ⟨congrArg (fun z => Ending.returned (.bool z)) HH.out.symm, HP.out.1, HP.out.2⟩)
        · have cb : ((x : Int) == i) = false := by simpa using ci
          have CI := hid ci
          clear ci
          go_wp2
          go_roundg k1
          case measure => omega
          case rel =>
            refine ⟨k + 1, congrArg (Value.int .i64) HW.out, hid ⟨by have := HJ.out.1; omega, by omega⟩, hid ?_, rfl⟩
            rw [htake.out]
            intro y hy
            rcases List.mem_append.1 hy with h | h
            · exact HN.out y h
            · rw [List.mem_singleton.1 h]; exact CI.out
      · have c4b0 : decide (k < L.length) = false := decide_eq_false cj
        have hh : hasL L i = false := by
          have hn := HN.out
          rw [List.take_of_length_le (by omega)] at hn
          unfold hasL
          rw [decide_eq_false_iff_not]
          intro hm
          have h1 := HT.out.inn _ hm
          exact hn _ hm (by omega)
        have HG : Hid (giveL L i = L) := hid (delL_none _ _ (by simpa [hasL] using hh))
        have HH := hid hh
        clear hh
        go_wp2
        go_ret
        exact ⟨congrArg (fun z => Ending.returned (.bool z)) HH.out.symm, by rw [HG.out]; exact HT.out, Fr.refl _ _ _⟩
end Go.Proofs.YtlojhiacaleokaaDoor.Pa
