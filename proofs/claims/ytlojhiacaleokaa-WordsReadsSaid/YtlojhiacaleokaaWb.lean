/- What was written, numbers and texts, is read so, and nothing is left: WordsBack's walk, for all texts and numbers. -/
import Derived.Test.YtlojhiacaleokaaPb
namespace Go.Proofs.Ytlojhiacaleokaa.PWD
open Go.RowKit Go.Proofs.YtlojhiacaleokaaW.PrintWords Go.Proofs.YtlojhiacaleokaaW.PrintLast Go.Proofs.YtlojhiacaleokaaW.PrintMore
set_option linter.unusedVariables false
set_option linter.unusedSimpArgs false
def encs (l : List ByteArray) : List Int := l.flatMap enc
theorem take_rd (l : List ByteArray) (j : Nat) (h : j < l.length) : l.take (j + 1) = l.take j ++ [rdOf ByteArray.empty l (j : Int)] := by
  rw [List.take_succ_eq_append_getElem h]
  congr 2
  simp [rdOf, List.getD_eq_getElem?_getD, h]
theorem encs_snoc (l : List ByteArray) (j : Nat) (h : j < l.length) : encs (l.take (j + 1)) = encs (l.take j) ++ enc (rdOf ByteArray.empty l (j : Int)) := by
  rw [take_rd l j h]; simp [encs]
theorem enc_w (s : ByteArray) (hs : s.size ≤ 100) (xs : List Int) : xs ++ [IntKind.u64.wrap s.size] ++ packv (bytesOf s) = xs ++ enc s := by
  rw [u64_in (by omega) (by omega), List.append_assoc]; rfl
theorem enc_len (s : ByteArray) (hs : s.size ≤ 100) : (enc s).length ≤ 14 := by
  unfold enc; rw [List.length_cons, packv_len, bytesOf_length]; omega
theorem packv_short (s : ByteArray) (hs : s.size ≤ 100) : (packv (bytesOf s)).length ≤ 13 := by
  rw [packv_len, bytesOf_length]; omega
theorem pack_text (s : ByteArray) (hs : s.size ≤ 100) : words_Pack.f 502 (bytesOf s) = some (packv (bytesOf s)) :=
  pack_ev _ (bytes_B s) (by rw [bytesOf_length]; omega) 502 (by rw [bytesOf_length]; omega)
theorem takeI_rd (l : List Int) (j : Nat) (h : j < l.length) : l.take (j + 1) = l.take j ++ [rd l (j : Int)] := by
  rw [List.take_succ_eq_append_getElem h]
  congr 2
  simp [rd, List.getD_eq_getElem?_getD, h]
theorem dropI_rd (l : List Int) (j : Nat) (h : j < l.length) : l.drop j = rd l (j : Int) :: l.drop (j + 1) := by
  rw [List.drop_eq_getElem_cons h]
  congr 1
  simp [rd, List.getD_eq_getElem?_getD, h]
theorem encs_drop (l : List ByteArray) (j : Nat) (h : j < l.length) : encs (l.drop j) = enc (rdOf ByteArray.empty l (j : Int)) ++ encs (l.drop (j + 1)) := by
  rw [List.drop_eq_getElem_cons h]
  unfold encs
  rw [List.flatMap_cons]
  congr 2
  simp [rdOf, List.getD_eq_getElem?_getD, h]
theorem rd_small (l : List ByteArray) (h : ∀ s ∈ l, s.size ≤ 100) (j : Nat) (hj : j < l.length) : (rdOf ByteArray.empty l (j : Int)).size ≤ 100 := by
  have e : rdOf ByteArray.empty l (j : Int) = l[j] := by simp [rdOf, List.getD_eq_getElem?_getD, hj]
  rw [e]
  exact h _ (List.getElem_mem _)
theorem encs_len (l : List ByteArray) (h : ∀ s ∈ l, s.size ≤ 100) : (encs l).length ≤ 14 * l.length := by
  induction l with
  | nil => simp [encs]
  | cons a t ih =>
    have := ih (fun s hs => h s (by simp [hs]))
    have h1 := enc_len a (h a (by simp))
    simp only [encs, List.flatMap_cons, List.length_append, List.length_cons] at this ⊢
    omega
theorem enc_pos (s : ByteArray) : ∀ x ∈ enc s, 0 ≤ x := by
  intro x hx
  unfold enc at hx
  rcases List.mem_cons.1 hx with rfl | h
  · omega
  · unfold packv at h
    unfold pk at h
    obtain ⟨j, _, rfl⟩ := List.mem_map.1 h
    exact (Wv_bound _ (bytes_B s) _ _).1
theorem rd_mem (l : List Int) (j : Nat) (h : j < l.length) : rd l (j : Int) ∈ l := by
  have e : rd l (j : Int) = l[j] := by simp [rd, List.getD_eq_getElem?_getD, h]
  rw [e]
  exact List.getElem_mem _
theorem mem_later (l0 : List ByteArray) (l1 : List Int) (j : Nat) (x : Int) (h : x ∈ encs (l0.drop j) ++ l1) : x ∈ encs l0 ++ l1 := by
  rcases List.mem_append.1 h with h | h
  · refine List.mem_append.2 (Or.inl ?_)
    unfold encs at h ⊢
    obtain ⟨s, h1, h2⟩ := List.mem_flatMap.1 h
    exact List.mem_flatMap.2 ⟨s, List.mem_of_mem_drop h1, h2⟩
  · exact List.mem_append.2 (Or.inr h)
set_option maxHeartbeats 8000000 in
theorem back_1 (A0 : Option Addr) (c0 : Nat) (l0 : (List ByteArray)) (A1 : Option Addr) (c1 : Nat) (l1 : (List Int)) (w : World) (hl0 : l0.length ≤ c0) (hr0 : Kd.C Kd.string w A0 l0.length l0) (hl1 : l1.length ≤ c1) (hr1 : Kd.C (Kd.int .i64) w A1 l1.length l1) (hd0 : decide (20 < (l0.length : Int)) = false) (hd1 : decide (20 < (l1.length : Int)) = false) (b0 : l0.length ≤ 20) (b1 : l1.length ≤ 20) :
    Calls Try.prog 4 #[.slice A0 l0.length c0, .slice A1 l1.length c1] w fun e w' => e = .returned (.bool true) ∧ Below w.heap.size w w' := by
  have HA := Aside0.mk (awake_calls w)
  have HR0 := Aside0.mk hr0
  have HR1 := Aside0.mk hr1
  have B0 := Aside0.mk b0
  have B1 := Aside0.mk b1
  clear hr0 hr1 b0 b1
  go_enter Try.func4, Try.ntmps4
  go_wp2_with (first | (go_at_call 6; (with_reducible refine HA.out.mono ?_); rintro e w1 ⟨rfl, hb1⟩))
  go_loopg [27] (l0.length + 1) (fun kq v27 w' => ∃ j : Nat, v27 = .int .i64 (j : Int) ∧ Aside0 (j + kq = l0.length + 1 ∧ j ≤ l0.length) ∧ Aside0 (∀ s ∈ l0.take j, s.size ≤ 100) ∧ Aside0 (Wr w' w.heap.size w1.heap.size (encs (l0.take j))) ∧ Aside0 (Below w.heap.size w w'))
  case atStart => exact ⟨0, rfl, ⟨by omega, by omega⟩, ⟨by simp⟩, ⟨⟨_, blk_new w1 _, below_size hb1, Kd.R_nil _ _ _ _ _⟩⟩, ⟨below_alloc hb1 _⟩⟩
  case round =>
    obtain ⟨j, rfl, HJ, HS, HW, HB⟩ := hrel
    have hj := HJ.out.2
    cases gk with
    | zero => exact absurd HJ.out.1 (by omega)
    | succ k1 =>
      have hj20 : j ≤ 20 := Nat.le_trans hj B0.out
      by_cases c : j < l0.length
      · have c4b0 : decide ((j : Int) < (l0.length : Int)) = true := decide_eq_true (by omega)
        obtain ⟨ad, rfl, hx⟩ := Kd.at_string (Kd.C_below HR0.out HB.out) (j : Int) (by omega) (by omega)
        rw [Int.toNat_natCast] at hx
        have p0 : (0 ≤ (j : Int)) = True := eq_true (by omega)
        have q0 : ((j : Int) < (l0.length : Int)) = True := eq_true (by omega)
        have hts := encs_snoc l0 j c
        have htk := take_rd l0 j c
        obtain ⟨s, hs⟩ : ∃ s : ByteArray, s = rdOf ByteArray.empty l0 (j : Int) := ⟨_, rfl⟩
        rw [← hs] at hx hts htk
        have HTS := Aside0.mk hts
        have HTK := Aside0.mk htk
        clear hs hts htk
        by_cases c2 : s.size ≤ 100
        · have d2 : decide (100 < (s.size : Int)) = false := decide_eq_false (by omega)
          have HC := Aside0.mk c2
          clear c2
          have hlen : (encs (l0.take j)).length ≤ 14 * 20 := Nat.le_trans (encs_len _ HS.out) (Nat.mul_le_mul_left _ (by rw [List.length_take]; have := B0.out; omega))
          have HLEN := Aside0.mk hlen
          clear hlen
          have HT := Aside0.mk (text_calls w.heap.size w1.heap.size 502 (encs (l0.take j)) s (packv (bytesOf s)) wr HB.out.size (by have := HLEN.out; have := packv_short s HC.out; omega) (by have := HC.out; omega) (pack_text s HC.out) HW.out)
          go_wp2_with (first | (go_at_call 14; (with_reducible refine HT.out.mono ?_); rintro e w2 ⟨rfl, hW2, hB2⟩))
          go_roundg k1
          case measure => omega
          case rel =>
            refine ⟨j + 1, by go_num, ⟨by have := HJ.out.1; omega, by omega⟩, ⟨?_⟩, ⟨?_⟩, ⟨HB.out.trans hB2⟩⟩
            · rw [HTK.out]
              intro x hx
              rcases List.mem_append.1 hx with h | h
              · exact HS.out x h
              · rw [List.mem_singleton.1 h]; exact HC.out
            · rw [HTS.out, ← enc_w s HC.out]; exact hW2
        · have d2 : decide (100 < (s.size : Int)) = true := decide_eq_true (by omega)
          go_wp2
          go_ret
          exact ⟨rfl, HB.out⟩
      · have c4b0 : decide ((j : Int) < (l0.length : Int)) = false := decide_eq_false (by omega)
        obtain rfl : j = l0.length := by omega
        rw [List.take_length] at HW HS
        go_wp2
        obtain ⟨wx, hwx⟩ : ∃ wx : World, wx = wr := ⟨_, rfl⟩
        subst hwx
        clear HJ hj c
        go_loopg [39] (l1.length + 1) (fun kq v39 w' => ∃ j : Nat, v39 = .int .i64 (j : Int) ∧ Aside0 (j + kq = l1.length + 1 ∧ j ≤ l1.length) ∧ Aside0 (∀ x ∈ l1.take j, 0 ≤ x ∧ x ≤ 4611686018427387904) ∧ Aside0 (Wr w' w.heap.size w1.heap.size (encs l0 ++ l1.take j)) ∧ Aside0 (Below w.heap.size w w'))
        case atStart => exact ⟨0, rfl, ⟨by omega, by omega⟩, ⟨by simp⟩, ⟨by simpa using HW.out⟩, ⟨HB.out⟩⟩
        case round =>
          clear HB HW
          obtain ⟨j, rfl, HJ, HS1, HW, HB⟩ := hrel
          have hj := HJ.out.2
          have hj20 : j ≤ 20 := Nat.le_trans hj B1.out
          cases gk with
          | zero => exact absurd HJ.out.1 (by omega)
          | succ k1 =>
            by_cases c : j < l1.length
            · have c4b0 : decide ((j : Int) < (l1.length : Int)) = true := decide_eq_true (by omega)
              have p0 : 0 ≤ (j : Int) := by omega
              have q0 : (j : Int) < (l1.length : Int) := by omega
              obtain ⟨ad, rfl, hx⟩ := Kd.at_int HR1.out (j : Int) p0 q0
              rw [Int.toNat_natCast] at hx
              replace hx := (HB.out.cell (World.block_lt_of_cell? w _ hx)).trans hx
              replace p0 := eq_true p0
              replace q0 := eq_true q0
              have htk := takeI_rd l1 j c
              obtain ⟨x, hs⟩ : ∃ x : Int, x = rd l1 (j : Int) := ⟨_, rfl⟩
              rw [← hs] at hx htk
              have HTK := Aside0.mk htk
              clear hs htk
              by_cases c2 : x < 0
              · have d2 : decide (x < 0) = true := decide_eq_true c2
                clear c2
                go_wp2
                go_ret
                exact ⟨rfl, HB.out⟩
              · have d2 : decide (x < 0) = false := decide_eq_false c2
                by_cases c3 : 4611686018427387904 < x
                · have d3 : decide (4611686018427387904 < x) = true := decide_eq_true c3
                  clear c3 c2
                  go_wp2
                  go_ret
                  exact ⟨rfl, HB.out⟩
                · have d3 : decide (4611686018427387904 < x) = false := decide_eq_false c3
                  have HX : Aside0 (0 ≤ x ∧ x ≤ 4611686018427387904) := ⟨by omega⟩
                  clear c3 c2
                  have HLEN : Aside0 ((encs l0 ++ l1.take j).length ≤ 300) := ⟨by rw [List.length_append, List.length_take]; have := encs_len l0 HS.out; have := B0.out; have := B1.out; omega⟩
                  have HT := Aside0.mk (num_calls w.heap.size w1.heap.size (encs l0 ++ l1.take j) x wr HB.out.size (by have := HLEN.out; omega) HW.out)
                  go_wp2_with (first | (go_at_call 15; (with_reducible refine HT.out.mono ?_); rintro e w2 ⟨rfl, hW2, hB2⟩))
                  go_roundg k1
                  case measure => omega
                  case rel =>
                    refine ⟨j + 1, by go_num, ⟨by have := HJ.out.1; omega, by omega⟩, ⟨?_⟩, ⟨?_⟩, ⟨HB.out.trans hB2⟩⟩
                    · rw [HTK.out]
                      intro y hy
                      rcases List.mem_append.1 hy with h | h
                      · exact HS1.out y h
                      · rw [List.mem_singleton.1 h]; exact HX.out
                    · rw [HTK.out, ← List.append_assoc]; rw [u64_in HX.out.1 (by have := HX.out.2; omega)] at hW2; exact hW2
            · have c4b0 : decide ((j : Int) < (l1.length : Int)) = false := decide_eq_false (by omega)
              obtain rfl : j = l1.length := by omega
              rw [List.take_length] at HW HS1
              have HLEN : Aside0 ((encs l0 ++ l1).length ≤ 300) := ⟨by rw [List.length_append]; have := encs_len l0 HS.out; have := B0.out; have := B1.out; omega⟩
              have HT := Aside0.mk (words_calls w.heap.size w1.heap.size (encs l0 ++ l1) wr (by have := HLEN.out; omega) HW.out)
              have hL0 : ∀ x ∈ encs l0 ++ l1, 0 ≤ x := by
                intro x hx
                rcases List.mem_append.1 hx with h | h
                · unfold encs at h
                  obtain ⟨s, _, h2⟩ := List.mem_flatMap.1 h
                  exact enc_pos s x h2
                · exact (HS1.out x h).1
              obtain ⟨W, hW⟩ : ∃ W : List Int, W = encs l0 ++ l1 := ⟨_, rfl⟩
              rw [← hW] at HT HLEN hL0
              have HLP := Aside0.mk hL0
              have HWE := Aside0.mk hW
              clear hW hL0 HW
              go_wp2_with (first | (go_at_call 17; (with_reducible refine HT.out.mono ?_); rintro e w2 ⟨v0, rfl, hR2, hB2⟩; (obtain ⟨A2, c2, rfl⟩ := Kd.R_slice hR2; have HNW := Aside0.mk (new_calls A2 c2 W w2 (Kd.R_reads' hR2).2.2 (Kd.R_reads' hR2).2.1 (by have := HLEN.out; omega)); have HB2 := Aside0.mk (HB.out.trans (hB2.mono HB.out.size)); clear hR2 hB2)) | (go_at_call 16; ((with_reducible refine HNW.out.mono ?_); rintro e w3 ⟨g, rfl, hR3, hB3⟩)))
              have HR3 : Aside0 (Rd w3 w.heap.size g (encs (l0.drop 0) ++ l1) false) := ⟨by rw [List.drop_zero, ← HWE.out]; exact Rd_lower hR3 HB2.out.size⟩
              have HB3 := Aside0.mk (HB2.out.trans (hB3.mono HB2.out.size))
              clear hR3 hB3 HT HNW HB HB2 hj hj20 c4b0 HJ HLEN
              go_loopg [56] (l0.length + 1) (fun kq v56 w' => ∃ j : Nat, v56 = .int .i64 (j : Int) ∧ Aside0 (j + kq = l0.length + 1 ∧ j ≤ l0.length) ∧ Aside0 (Rd w' w.heap.size g (encs (l0.drop j) ++ l1) false) ∧ Aside0 (Below w.heap.size w w'))
              case atStart => exact ⟨0, rfl, ⟨by omega, by omega⟩, HR3, HB3⟩
              case round =>
                clear HR3 HB3
                obtain ⟨j, rfl, HJ, HR, HB⟩ := hrel
                have hj := HJ.out.2
                have hj20 : j ≤ 20 := Nat.le_trans hj B0.out
                cases gk with
                | zero => exact absurd HJ.out.1 (by omega)
                | succ k1 =>
                  by_cases c : j < l0.length
                  · have c4b0 : decide ((j : Int) < (l0.length : Int)) = true := decide_eq_true (by omega)
                    obtain ⟨ad, rfl, hx⟩ := Kd.at_string (Kd.C_below HR0.out HB.out) (j : Int) (by omega) (by omega)
                    rw [Int.toNat_natCast] at hx
                    have p0 : (0 ≤ (j : Int)) = True := eq_true (by omega)
                    have q0 : ((j : Int) < (l0.length : Int)) = True := eq_true (by omega)
                    have HT : Aside0 (Calls Try.prog 18 #[.pointer (some ⟨g, 0, none⟩), .int .i64 100] wr fun e w' => e = .returned (.string (rdOf ByteArray.empty l0 (j : Int))) ∧ Rd w' w.heap.size g (encs (l0.drop (j + 1)) ++ l1) false ∧ Below w.heap.size wr w') := by
                      have hh := rtext_calls w.heap.size g (encs (l0.drop j) ++ l1) false 100 wr (fun x hx => HLP.out x (by rw [HWE.out]; exact mem_later l0 l1 j x hx)) (Or.inr (by decide)) HR.out
                      rw [encs_drop l0 j c, List.append_assoc, tt_text _ _ (rd_small l0 HS.out j c)] at hh
                      exact ⟨hh⟩
                    obtain ⟨s, hs⟩ : ∃ s : ByteArray, s = rdOf ByteArray.empty l0 (j : Int) := ⟨_, rfl⟩
                    rw [← hs] at hx HT
                    clear hs
                    go_wp2_with (first | (go_at_call 18; (with_reducible refine HT.out.mono ?_); rintro e w4 ⟨rfl, hR4, hB4⟩))
                    go_roundg k1
                    case measure => omega
                    case rel => exact ⟨j + 1, by go_num, ⟨by have := HJ.out.1; omega, by omega⟩, ⟨hR4⟩, ⟨HB.out.trans hB4⟩⟩
                  · have c4b0 : decide ((j : Int) < (l0.length : Int)) = false := decide_eq_false (by omega)
                    obtain rfl : j = l0.length := by omega
                    rw [List.drop_length] at HR
                    go_wp2
                    have HR3 : Aside0 (Rd wr w.heap.size g (l1.drop 0) false) := ⟨by rw [List.drop_zero]; exact HR.out⟩
                    have HB3 := Aside0.mk HB.out
                    clear HR HB hj hj20 HJ c4b0 c
                    go_loopg [67] (l1.length + 1) (fun kq v67 w' => ∃ j : Nat, v67 = .int .i64 (j : Int) ∧ Aside0 (j + kq = l1.length + 1 ∧ j ≤ l1.length) ∧ Aside0 (Rd w' w.heap.size g (l1.drop j) false) ∧ Aside0 (Below w.heap.size w w'))
                    case atStart => exact ⟨0, rfl, ⟨by omega, by omega⟩, HR3, HB3⟩
                    case round =>
                      clear HR3 HB3
                      obtain ⟨j, rfl, HJ, HR, HB⟩ := hrel
                      have hj := HJ.out.2
                      have hj20 : j ≤ 20 := Nat.le_trans hj B1.out
                      cases gk with
                      | zero => exact absurd HJ.out.1 (by omega)
                      | succ k1 =>
                        by_cases c : j < l1.length
                        · have c4b0 : decide ((j : Int) < (l1.length : Int)) = true := decide_eq_true (by omega)
                          have p0 : 0 ≤ (j : Int) := by omega
                          have q0 : (j : Int) < (l1.length : Int) := by omega
                          obtain ⟨ad, rfl, hx⟩ := Kd.at_int HR1.out (j : Int) p0 q0
                          rw [Int.toNat_natCast] at hx
                          replace hx := (HB.out.cell (World.block_lt_of_cell? w _ hx)).trans hx
                          replace p0 := eq_true p0
                          replace q0 := eq_true q0
                          have HT : Aside0 (Calls Try.prog 19 #[.pointer (some ⟨g, 0, none⟩)] wr fun e w' => e = .returned (.int .i64 (rd l1 (j : Int))) ∧ Rd w' w.heap.size g (l1.drop (j + 1)) false ∧ Below w.heap.size wr w') := by
                            have hh := HR.out
                            rw [dropI_rd l1 j c] at hh
                            have hm := HS1.out (rd l1 (j : Int)) (rd_mem l1 j c)
                            exact ⟨rnum_ok w.heap.size g _ _ wr hm.1 hm.2 hh⟩
                          obtain ⟨x, hs⟩ : ∃ x : Int, x = rd l1 (j : Int) := ⟨_, rfl⟩
                          rw [← hs] at hx HT
                          clear hs
                          go_wp2_with (first | (go_at_call 19; (with_reducible refine HT.out.mono ?_); rintro e w4 ⟨rfl, hR4, hB4⟩))
                          go_roundg k1
                          case measure => omega
                          case rel => exact ⟨j + 1, by go_num, ⟨by have := HJ.out.1; omega, by omega⟩, ⟨hR4⟩, ⟨HB.out.trans hB4⟩⟩
                        · have c4b0 : decide ((j : Int) < (l1.length : Int)) = false := decide_eq_false (by omega)
                          obtain rfl : j = l1.length := by omega
                          rw [List.drop_length] at HR
                          clear HJ hj hj20 c
                          have HL : Aside0 (∀ W : World, Rd W w.heap.size g [] false → Calls Try.prog 21 #[.pointer (some ⟨g, 0, none⟩)] W fun e w' => e = .returned (.int .i64 0) ∧ Drawn0 W w') := ⟨fun W h => left_calls w.heap.size g [] false W h⟩
                          go_wp2_with (first | (go_at_call 20; first | ((with_reducible refine (bad_calls w.heap.size g [] true _ hR6).mono ?_); rintro e w7 ⟨rfl, ⟨nd7, rfl⟩⟩) | ((with_reducible refine (bad_calls w.heap.size g [] false _ HR.out).mono ?_); rintro e w4 ⟨rfl, ⟨nd4, rfl⟩⟩)) | (go_at_call 21; (with_reducible refine (HL.out _ (Rd_drewN HR.out _)).mono ?_); rintro e w5 ⟨rfl, ⟨nd5, rfl⟩⟩) | (go_at_call 19; (with_reducible refine (rnum_nil w.heap.size g _ (Rd_drewN HR.out _)).mono ?_); rintro e w6 ⟨rfl, hR6, hB6⟩))
                          go_ret
                          exact ⟨rfl, pw_below_drewN ((pw_below_drewN HB.out _).trans hB6) _⟩
set_option maxHeartbeats 2000000 in
theorem walkWordsBack (A0 : Option Addr) (c0 : Nat) (l0 : (List ByteArray)) (A1 : Option Addr) (c1 : Nat) (l1 : (List Int)) (w : World) (hl0 : l0.length ≤ c0) (hr0 : Kd.C Kd.string w A0 l0.length l0) (g0 : (l0.length ≤ maxLen ∧ ∀ y1 ∈ l0, y1.size ≤ maxLen)) (y0 : l0.length * 16 ≤ 140737488351232) (hl1 : l1.length ≤ c1) (hr1 : Kd.C (Kd.int .i64) w A1 l1.length l1) (g1 : (l1.length ≤ maxLen ∧ ∀ y2 ∈ l1, (Lit.int .i64 y2).wf = true)) (y1 : l1.length * 8 ≤ 140737488351232) :
    Calls Try.prog 4 #[.slice A0 l0.length c0, .slice A1 l1.length c1] w fun e w' => e = .returned (.bool true) ∧ Below w.heap.size w w' := by
  have HA := Aside0.mk (awake_calls w)
  clear g0 g1
  by_cases c : (20 : Int) < (l0.length : Int)
  · have hd0 : decide (20 < (l0.length : Int)) = true := decide_eq_true c
    clear hr0 hr1 y0 y1
    go_enter Try.func4, Try.ntmps4
    go_wp2_with (first | (go_at_call 6; (with_reducible refine HA.out.mono ?_); rintro e w1 ⟨rfl, hb1⟩))
    go_ret
    exact ⟨rfl, hb1⟩
  · have hd0 : decide (20 < (l0.length : Int)) = false := decide_eq_false c
    by_cases d : (20 : Int) < (l1.length : Int)
    · have hd1 : decide (20 < (l1.length : Int)) = true := decide_eq_true d
      clear hr0 hr1 y0 y1 c
      go_enter Try.func4, Try.ntmps4
      go_wp2_with (first | (go_at_call 6; (with_reducible refine HA.out.mono ?_); rintro e w1 ⟨rfl, hb1⟩))
      go_ret
      exact ⟨rfl, hb1⟩
    · exact back_1 A0 c0 l0 A1 c1 l1 w hl0 hr0 hl1 hr1 hd0 (decide_eq_false d) (by omega) (by omega)
end Go.Proofs.Ytlojhiacaleokaa.PWD
