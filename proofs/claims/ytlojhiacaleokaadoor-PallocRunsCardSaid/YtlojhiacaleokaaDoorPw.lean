/- palloc: New. -/
import Derived.Test.YtlojhiacaleokaaDoorPv
namespace Go.Proofs.YtlojhiacaleokaaDoor.Pa
open Go.RowKit Go.Proofs.YtlojhiacaleokaaDoorW.PrintWords Go.Proofs.YtlojhiacaleokaaDoorW.PrintLast Go.Proofs.YtlojhiacaleokaaDoorW.PrintMore
set_option linter.unusedVariables false
set_option linter.unusedSimpArgs false
attribute [local go_sem] max2_int min2_int max_two min_two
theorem info50 : (Tryd.prog.info? 50).map (fun i => (i.zero, i.size, i.bytes)) = some (some (.int .u64 0), 1, 8) := by kernel_rfl
theorem mk0 (m : Nat) (hm : m ≤ 20000) (w : World) : (Instr.makeSlice 46 (.int .i64 (m : Int)) (.int .i64 (m : Int))).run Tryd.prog w = .ok (.slice (some ⟨w.heap.size, 0, none⟩) m m) (w.alloc (.cells (Array.replicate m (.int .u64 0)) 50)) := by
  have h := run_make_row' (P := Tryd.prog) 46 50 (.int .u64 0) 8 Tryd.underlying46 info50 rfl .i64 .i64 m (by omega) (by omega) w
  rw [h]
  congr 3
  apply Array.ext
  · simp [madeCells]
  · intro i h1 h2
    simp [madeCells, Nat.mod_one]
theorem PS0 (w : World) (N : Nat) (V : Int) (hV : V = (N : Int)) (hN : N ≤ 1048576) : PS ((w.alloc (.cells (Array.replicate (N / 64 + 1) (.int .u64 0)) 50)).alloc (.cells #[.int .i64 V, .int .i64 V, .slice (some ⟨w.heap.size, 0, none⟩) (N / 64 + 1) (N / 64 + 1)] 48)) (w.heap.size + 1) w.heap.size N [] := by
  subst hV
  refine ⟨⟨List.replicate (N / 64 + 1) 0, ⟨?_, ?_, ?_, ?_, ?_, ?_, ?_⟩, ?_⟩, fun i hi => by simp at hi⟩
  · have := blk_new (w.alloc (.cells (Array.replicate (N / 64 + 1) (.int .u64 0)) 50)) (.cells #[.int .i64 (N : Int), .int .i64 (N : Int), .slice (some ⟨w.heap.size, 0, none⟩) (N / 64 + 1) (N / 64 + 1)] 48)
    rw [World.size_alloc] at this
    rw [this, List.length_replicate]
    simp
  · rw [blk_alloc (blk_new w _) _]
    congr 2
    simp
  · omega
  · rw [List.length_replicate]; omega
  · omega
  · omega
  · intro x hx
    have := (List.mem_replicate.1 hx).2
    omega
  · refine List.eq_nil_iff_forall_not_mem.2 fun x hx => ?_
    rw [mem_ul] at hx
    unfold bit at hx
    rw [List.getD_eq_getElem?_getD, List.getElem?_replicate] at hx
    split at hx <;> simp at hx
set_option maxHeartbeats 2000000 in
theorem new_ (A0 : Option Addr) (c0 : Nat) (l0 : List Int) (w : World) (hr0 : Kd.C (Kd.int .i64) w A0 l0.length l0) (hl : l0.length ≤ 1000) (n : Int) :
    Calls Tryd.prog 8 #[.int .i64 n, .slice A0 l0.length c0] w fun e w' => e = .returned (.pointer (some ⟨w.heap.size + 1, 0, none⟩)) ∧ PS w' (w.heap.size + 1) w.heap.size (cl n) (newL (cl n) l0) ∧ Below w.heap.size w w' := by
  have HR := hid hr0
  have HL := hid hl
  clear hr0 hl
  obtain ⟨N, hN⟩ : ∃ N, cl n = N := ⟨_, rfl⟩
  have HN := hid hN
  have hcl := cl_le n
  rw [hN] at hcl
  have hmin : min (max n 0) 1048576 = (N : Int) := by unfold cl at hN; omega
  have HP0 := hid (PS0 w N (N : Int) rfl hcl)
  have HB0 : Hid (Below w.heap.size w ((w.alloc (.cells (Array.replicate (N / 64 + 1) (.int .u64 0)) 50)).alloc (.cells #[.int .i64 (N : Int), .int .i64 (N : Int), .slice (some ⟨w.heap.size, 0, none⟩) (N / 64 + 1) (N / 64 + 1)] 48))) := hid (below_alloc (below_alloc (Below.refl _ _) _) _)
  have hmk := mk0 (N / 64 + 1) (by omega)
  obtain ⟨M, hM⟩ : ∃ M, N / 64 + 1 = M := ⟨_, rfl⟩
  rw [hM] at hmk HP0 HB0
  obtain ⟨NI, hNI⟩ : ∃ NI : Int, (N : Int) = NI := ⟨_, rfl⟩
  rw [hNI] at hmin HP0 HB0
  have hq1 : wrap64 (NI / 64) = NI / 64 := wrap_small _ (by omega) (by omega)
  have hq2 : wrap64 (NI / 64 + 1) = NI / 64 + 1 := wrap_small _ (by omega) (by omega)
  have hq3 : (M : Int) = NI / 64 + 1 := by omega
  rw [hq3] at hmk
  obtain ⟨X1, hX1⟩ : ∃ X1 : Int, (if n < 0 then 0 else n) = X1 := ⟨_, rfl⟩
  have hX2 : (if 1048576 < X1 then 1048576 else X1) = NI := by rw [← hmin, ← hX1]; split <;> split <;> omega
  clear hM hNI hmin hq3
  have HCL := hid hcl
  clear hN hcl
  go_enter Tryd.func8, Tryd.ntmps8
  go_wp2
  go_loopg [21] (l0.length + 1) (fun kq v21 w' => ∃ j : Nat, v21 = .int .i64 (j : Int) ∧ Hid (j + kq = l0.length + 1 ∧ j ≤ l0.length) ∧ Hid (PS w' (w.heap.size + 1) w.heap.size N (newL N (l0.take j))) ∧ Hid (Below w.heap.size w w'))
  case atStart => exact ⟨0, rfl, hid ⟨by omega, by omega⟩, HP0, HB0⟩
  case round =>
    obtain ⟨j, rfl, HJ, HT, HB⟩ := hrel
    have hj := HJ.out.2
    cases gk with
    | zero => exact absurd HJ.out.1 (by omega)
    | succ k1 =>
      by_cases cj : j < l0.length
      · have c4b0 : decide (j < l0.length) = true := decide_eq_true cj
        obtain ⟨ad, rfl, hx⟩ := Kd.at_int (Kd.C_below HR.out HB.out) (j : Int) (by omega) (by omega)
        rw [Int.toNat_natCast] at hx
        have p0 : (0 ≤ (j : Int)) = True := eq_true (by omega)
        have q0 : ((j : Int) < (l0.length : Int)) = True := eq_true (by omega)
        have HW : Hid (wrap64 ((j : Int) + 1) = ((j + 1 : Nat) : Int)) := by
          have := HL.out
          refine hid ?_
          rw [wrap_small _ (by omega) (by omega)]; rfl
        have hsn := newL_snoc N l0 j cj
        obtain ⟨x, hxe⟩ : ∃ x, rd l0 (j : Int) = x := ⟨_, rfl⟩
        rw [hxe] at hx hsn
        have HSN := hid hsn
        clear hxe hsn
        have hus := HT.out.use x
        go_wp2_with (first | (go_at_call 21; (with_reducible refine hus.mono ?_); rintro e w2 ⟨rfl, hT2, hF2⟩; have HT2 := hid hT2; have HF2 := hid hF2; clear hT2 hF2))
        go_roundg k1
        case measure => omega
        case rel =>
          refine ⟨j + 1, congrArg (Value.int .i64) HW.out, hid ⟨by have := HJ.out.1; omega, by omega⟩, hid ?_, hid (HB.out.trans (HF2.out.below HB.out.size (by omega) (Nat.le_refl _)))⟩
          rw [HSN.out]; exact HT2.out
      · have c4b0 : decide (j < l0.length) = false := decide_eq_false cj
        have HE : Hid (l0.take j = l0) := hid (List.take_of_length_le (by omega))
        go_wp2
        go_ret
        refine ⟨rfl, ?_, HB.out⟩
        have h9 := HT.out
        rw [HE.out] at h9
        rw [HN.out]
        exact h9
end Go.Proofs.YtlojhiacaleokaaDoor.Pa
