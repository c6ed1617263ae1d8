/- stat.Bytes: how many bytes went in and out. -/
import Derived.Test.YtbbpjjbgdemmpaaMe
namespace Go.Proofs.Ytbbpjjbgdemmpaa.PStat
open Go.RowKit Go.Proofs.YtbbpjjbgdemmpaaW.PrintWords Go.Proofs.YtbbpjjbgdemmpaaW.PrintLast Go.Proofs.YtbbpjjbgdemmpaaW.PrintMore
set_option linter.unusedVariables false
set_option linter.unusedSimpArgs false
def isR (x : S54) : Bool := decide (kd x = 3) || decide (kd x = 5)
def sI (l : List S54) : Nat := (l.map fun x => if isR x then rl x else 0).sum
def sO (l : List S54) : Nat := (l.map fun x => if isW x then dl x else 0).sum
theorem sI_snoc (l : List S54) (j : Nat) (h : j < l.length) : sI (l.take (j + 1)) = sI (l.take j) + if isR l[j] then rl l[j] else 0 := by
  unfold sI; rw [List.take_succ_eq_append_getElem h, List.map_append, List.sum_append]; simp
theorem sO_snoc (l : List S54) (j : Nat) (h : j < l.length) : sO (l.take (j + 1)) = sO (l.take j) + if isW l[j] then dl l[j] else 0 := by
  unfold sO; rw [List.take_succ_eq_append_getElem h, List.map_append, List.sum_append]; simp
theorem few_el {l : List S54} (h : few l = true) : l.length ≤ 40 ∧ ∀ j, ∀ h : j < l.length, dl l[j] ≤ 2000 ∧ rl l[j] ≤ 2000 := by
  unfold few at h
  simp only [Bool.and_eq_true, decide_eq_true_eq, List.all_eq_true] at h
  refine ⟨h.2, fun j hj => ?_⟩
  have := h.1 _ (List.getElem_mem hj)
  unfold fewx at this
  simpa using this
theorem sI_le {l : List S54} (h : few l = true) (j : Nat) (hj : j ≤ l.length) : sI (l.take j) ≤ 2000 * j := by
  induction j with
  | zero => simp [sI]
  | succ j ih =>
    have h1 := ih (by omega)
    have h2 := ((few_el h).2 j (by omega)).2
    rw [sI_snoc l j (by omega)]
    split <;> omega
theorem sO_le {l : List S54} (h : few l = true) (j : Nat) (hj : j ≤ l.length) : sO (l.take j) ≤ 2000 * j := by
  induction j with
  | zero => simp [sO]
  | succ j ih =>
    have h1 := ih (by omega)
    have h2 := ((few_el h).2 j (by omega)).1
    rw [sO_snoc l j (by omega)]
    split <;> omega
theorem bw1 {x : S54} (h : kd x = 3) : isR x = true ∧ isW x = false := by simp [isR, isW, h]
theorem bw2 {x : S54} (h : (kd x == 3) = true ∨ (kd x == 5) = true) : isR x = true ∧ isW x = false := by
  rcases h with h | h <;> (have := beq_iff_eq.1 h; simp [isR, isW, this])
theorem bw3 {x : S54} (h : (kd x == 3) = false ∧ (kd x == 5) = false) (h2 : (kd x = 4 ∨ kd x = 6) ∧ (er x == 0) = true) : isR x = false ∧ isW x = true := by
  have h3 := beq_iff_eq.1 h2.2
  have h4 := beq_eq_false_iff_ne.1 h.1
  have h5 := beq_eq_false_iff_ne.1 h.2
  rcases h2.1 with h6 | h6 <;> simp [isR, isW, h3, h6]
theorem bw4 {x : S54} (h : (kd x == 3) = false ∧ (kd x == 5) = false) (h1 : kd x = 4 ∨ kd x = 6) (h2 : ¬ kd x = 4 ∧ ¬ kd x = 6 ∨ (er x == 0) = false) : isR x = false ∧ isW x = false := by
  have h4 := beq_eq_false_iff_ne.1 h.1
  have h5 := beq_eq_false_iff_ne.1 h.2
  rcases h2 with h2 | h2
  · omega
  · have h3 := beq_eq_false_iff_ne.1 h2
    simp [isR, isW, h3, h4, h5]
theorem bw5 {x : S54} (h : (kd x == 3) = false ∧ (kd x == 5) = false) (h1 : ¬ (kd x = 4 ∨ kd x = 6)) : isR x = false ∧ isW x = false := by
  have h4 := beq_eq_false_iff_ne.1 h.1
  have h5 := beq_eq_false_iff_ne.1 h.2
  have h6 : ¬ kd x = 4 := fun e => h1 (Or.inl e)
  have h7 : ¬ kd x = 6 := fun e => h1 (Or.inr e)
  simp [isR, isW, h4, h5, h6, h7]
set_option maxHeartbeats 8000000 in
theorem bytes_calls (A0 : Option Addr) (c0 : Nat) (l : List S54) (w : World) (hr0 : Kd.C k54 w A0 l.length l) (hf : few l = true) :
    Calls Try.prog 42 #[.slice A0 l.length c0] w fun e w' => e = .returned (.tuple #[.int .i64 (sI l : Int), .int .i64 (sO l : Int)]) ∧ Below w.heap.size w w' := by
  have HR := Aside0.mk hr0
  have HF := Aside0.mk hf
  have hlen := (few_el hf).1
  clear hr0 hf
  go_enter Try.func42, Try.ntmps42
  go_wp2
  go_loopg [10, 4, 5] (l.length + 1) (fun kq v10 v4 v5 w' => ∃ j : Nat, v10 = .int .i64 (j : Int) ∧ v4 = .int .i64 (sI (l.take j) : Int) ∧ v5 = .int .i64 (sO (l.take j) : Int) ∧ Aside0 (j + kq = l.length + 1 ∧ j ≤ l.length) ∧ Aside0 (Below w.heap.size w w'))
  case atStart => exact ⟨0, rfl, rfl, rfl, ⟨by omega, by omega⟩, ⟨Below.refl _ _⟩⟩
  case round =>
    obtain ⟨j, rfl, rfl, rfl, HJ, HB⟩ := hrel
    have hj := HJ.out.2
    cases gk with
    | zero => exact absurd HJ.out.1 (by omega)
    | succ k1 =>
      by_cases c : j < l.length
      · have q0 : (j : Int) < (l.length : Int) := by omega
        obtain ⟨ad, CS, A8, c8, A14, c14, rfl, hcell, E, hC8, hl8⟩ := elem HR.out j c
        have HCL : Aside0 (∀ q v, CS[q]? = some v → wr.cell? ((ad.add (j * 18)).add q) = some v) := ⟨fun q v hq => pw_cell_below HB.out (hcell q v hq)⟩
        have HE := Aside0.mk E
        have e1 := E.c1; have e2 := E.c2; have e3 := E.c3; have e4 := E.c4; have e5 := E.c5; have e6 := E.c6; have e7 := E.c7; have e8 := E.c8; have e9 := E.c9; have e14 := E.c14
        obtain ⟨a, ha⟩ : ∃ a, a = sI (l.take j) := ⟨_, rfl⟩
        obtain ⟨b, hb⟩ : ∃ b, b = sO (l.take j) := ⟨_, rfl⟩
        have la : a ≤ 80000 := by rw [ha]; exact Nat.le_trans (sI_le HF.out j (by omega)) (by omega)
        have lb : b ≤ 80000 := by rw [hb]; exact Nat.le_trans (sO_le HF.out j (by omega)) (by omega)
        have ld := ((few_el HF.out).2 j c).1
        have lr := ((few_el HF.out).2 j c).2
        have SA : Aside0 (sI (l.take (j + 1)) = a + if isR l[j] then rl l[j] else 0) := ⟨by rw [ha]; exact sI_snoc _ _ c⟩
        have SB : Aside0 (sO (l.take (j + 1)) = b + if isW l[j] then dl l[j] else 0) := ⟨by rw [hb]; exact sO_snoc _ _ c⟩
        rw [← ha, ← hb]
        clear ha hb
        have HCall : Aside0 (Calls Try.prog 50 #[.agg #[.int .i64 (kd l[j]), .int .i64 l[j].f1.f1, .int .i64 l[j].f1.f2, .int .i64 l[j].f1.f3, .int .i64 l[j].f1.f4, .string l[j].f1.f5, .string l[j].f1.f6, .slice A8 (dl l[j]) c8]] (wr.alloc (.cells CS 54)) fun e w4 => e = .returned (.bool (decide (kd l[j] = 4) || decide (kd l[j] = 6))) ∧ w4.heap[wr.heap.size]? = some (.cells CS 54 (0, 0)) ∧ Aside0 (Below w.heap.size w w4)) := ⟨by
          refine (writes_calls _ _ _ _ _ _ _ A8 c8 _ _ (Kd.C_alloc (Kd.C_below hC8 HB.out) (.cells CS 54)) hl8).mono ?_
          rintro e w4 ⟨rfl, hb4⟩
          exact ⟨rfl, blk_below (blk_new wr (.cells CS 54)) hb4, ⟨below_step (below_alloc HB.out _) hb4⟩⟩⟩
        clear hcell E hC8
        go_wp2_with (first | ((with_reducible refine L.wpList_load_cells (o := ⟨some 13, _, _, _, _, _⟩) ?hgd 54 (.tmp 12) ?ho (ad.add (j * 18)) ?hx CS _ HCL.out Try.underlying54 ?hd (hi54 HE.out.sz) ?_); (case hgd => rfl); (case ho => rfl); (case hx => rfl); (case hd => rfl)) | ((with_reducible refine L.wpList_store_new rfl 54 _ _ rfl 54 _ CS ?hx ?hy (hi54 HE.out.sz) ?ho HE.out.one ?_); (case hx => rfl); (case hy => rfl); (case ho => rw [HE.out.sz]; kernel_rfl)) | (go_at_call 50; refine HCall.out.mono ?_; rintro e w4 ⟨rfl, hX, HB4⟩; have x8 := (blk_cell hX 8).trans e8; have x9 := (blk_cell hX 9).trans e9; clear hX))
        · obtain ⟨qR, qW⟩ := bw1 (x := l[j]) (by assumption)
          rw [qR] at SA; rw [qW] at SB
          simp only [if_true, Bool.false_eq_true, if_false, Nat.add_zero] at SA SB
          go_roundg k1
          case measure => omega
          case rel => exact ⟨j + 1, by go_num, by rw [SA.out] <;> first | rfl | go_num, by rw [SB.out] <;> first | rfl | go_num, ⟨by have := HJ.out.1; omega, by omega⟩, ⟨below_alloc HB.out _⟩⟩
        · obtain ⟨qR, qW⟩ := bw2 (x := l[j]) (by assumption)
          rw [qR] at SA; rw [qW] at SB
          simp only [if_true, Bool.false_eq_true, if_false, Nat.add_zero] at SA SB
          go_roundg k1
          case measure => omega
          case rel => exact ⟨j + 1, by go_num, by rw [SA.out] <;> first | rfl | go_num, by rw [SB.out] <;> first | rfl | go_num, ⟨by have := HJ.out.1; omega, by omega⟩, ⟨below_alloc HB.out _⟩⟩
        · obtain ⟨qR, qW⟩ := bw3 (x := l[j]) (by assumption) (by assumption)
          rw [qR] at SA; rw [qW] at SB
          simp only [if_true, Bool.false_eq_true, if_false, Nat.add_zero] at SA SB
          go_roundg k1
          case measure => omega
          case rel => exact ⟨j + 1, by go_num, by rw [SA.out] <;> first | rfl | go_num, by rw [SB.out] <;> first | rfl | go_num, ⟨by have := HJ.out.1; omega, by omega⟩, HB4⟩
        · obtain ⟨qR, qW⟩ := bw4 (x := l[j]) (by assumption) (by assumption) (by assumption)
          rw [qR] at SA; rw [qW] at SB
          simp only [if_true, Bool.false_eq_true, if_false, Nat.add_zero] at SA SB
          go_roundg k1
          case measure => omega
          case rel => exact ⟨j + 1, by go_num, by rw [SA.out] <;> first | rfl | go_num, by rw [SB.out] <;> first | rfl | go_num, ⟨by have := HJ.out.1; omega, by omega⟩, HB4⟩
        · obtain ⟨qR, qW⟩ := bw5 (x := l[j]) (by assumption) (by assumption)
          rw [qR] at SA; rw [qW] at SB
          simp only [if_true, Bool.false_eq_true, if_false, Nat.add_zero] at SA SB
          go_roundg k1
          case measure => omega
          case rel => exact ⟨j + 1, by go_num, by rw [SA.out] <;> first | rfl | go_num, by rw [SB.out] <;> first | rfl | go_num, ⟨by have := HJ.out.1; omega, by omega⟩, HB4⟩
      · have q0 : ¬ (j : Int) < (l.length : Int) := by omega
        obtain rfl : j = l.length := by omega
        rw [List.take_length]
        go_wp2
        go_ret2
        exact ⟨rfl, HB.out⟩
end Go.Proofs.Ytbbpjjbgdemmpaa.PStat
