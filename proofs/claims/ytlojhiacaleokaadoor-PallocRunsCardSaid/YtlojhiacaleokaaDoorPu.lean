/- palloc: Taken.Use. -/
import Derived.Test.YtlojhiacaleokaaDoorPk
namespace Go.Proofs.YtlojhiacaleokaaDoor.Pa
open Go.RowKit Go.Proofs.YtlojhiacaleokaaDoorW.PrintWords Go.Proofs.YtlojhiacaleokaaDoorW.PrintLast Go.Proofs.YtlojhiacaleokaaDoorW.PrintMore
set_option linter.unusedVariables false
set_option linter.unusedSimpArgs false
set_option maxHeartbeats 2000000 in
theorem TS.use_new {w : World} {S : Nat → Prop} {t n : Nat} {L : List Nat} (h : TS w S t n L) (hS : ∀ k, S k → k < w.heap.size) (i : Nat) (hi1 : 1 ≤ i) (hi2 : i ≤ n) (hin : i ∉ L) :
    Calls Tryd.prog 23 #[.pointer (some ⟨t, 0, none⟩), .int .i64 (i : Int)] w fun e w' => e = .returned (.tuple #[]) ∧ TS w' S t n (insL L i) ∧ Fr t t w w' := by
  obtain ⟨A, c, h1, h2⟩ := h.ex
  have hc0 : w.cell? ⟨t, 0, none⟩ = some (.int .i64 (n : Int)) := blk_cell h1 0
  have hc1 : w.cell? ⟨t, 1, none⟩ = some (.slice A L.length c) := blk_cell h1 1
  have hh := h.has (i : Int)
  have hhl : hasL L (i : Int) = false := by
    unfold hasL
    rw [decide_eq_false_iff_not, Int.toNat_natCast]; exact hin
  rw [hhl] at hh
  have hb1 : decide ((i : Int) < 1) = false := decide_eq_false (by omega)
  have hb2 : decide (n < i) = false := decide_eq_false (by omega)
  have HV := hid h2
  have HT := hid h
  have H1 := hid h1
  have HS := hid hS
  have HI := hid (show 1 ≤ i ∧ i ≤ n ∧ i ∉ L from ⟨hi1, hi2, hin⟩)
  clear h h1 h2 hhl hS hi1 hi2 hin
  go_enter Tryd.func23, Tryd.ntmps23
  go_wp2_with (first | (go_at_call 16; (with_reducible refine hh.mono ?_); rintro e w1 ⟨rfl, hw1⟩; subst w1))
  go_loopg [4] (L.length + 1) (fun kq v4 w' => ∃ k : Nat, v4 = .int .i64 (k : Int) ∧ Hid (k + kq = L.length + 1 ∧ k ≤ L.length) ∧ Hid (∀ j (hj : j < L.length), j < k → L[j] < i) ∧ w' = w)
  case atStart => exact ⟨0, rfl, hid ⟨by omega, by omega⟩, hid (fun j hj h => by omega), rfl⟩
  case round =>
    obtain ⟨k, rfl, HJ, HN, rfl⟩ := hrel
    have hk := HJ.out.2
    cases gk with
    | zero => exact absurd HJ.out.1 (by omega)
    | succ k1 =>
      by_cases cj : k < L.length
      · have c4b0 : decide (k < L.length) = true := decide_eq_true (by omega)
        obtain ⟨ad, rfl, hx⟩ := Kd.at_int HV.out.row (k : Int) (by omega) (by omega)
        rw [Int.toNat_natCast, vals_rd L k cj] at hx
        have p0 : (0 ≤ (k : Int)) = True := eq_true (by omega)
        have q0 : ((k : Int) < (L.length : Int)) = True := eq_true (by omega)
        have HW : Hid (wrap64 ((k : Int) + 1) = ((k + 1 : Nat) : Int)) := by
          have := HT.out.sm
          refine hid ?_
          rw [wrap_small _ (by omega) (by omega)]; rfl
        obtain ⟨x, hxe⟩ : ∃ x, L[k] = x := ⟨_, rfl⟩
        have HXE := hid hxe
        rw [hxe] at hx
        clear hxe
        by_cases ci : x < i
        · have cb : decide (x < i) = true := decide_eq_true (by omega)
          have CI := hid ci
          clear ci
          go_wp2
          go_roundg k1
          case measure => omega
          case rel =>
            refine ⟨k + 1, congrArg (Value.int .i64) HW.out, hid ⟨by have := HJ.out.1; omega, by omega⟩, hid ?_, rfl⟩
            intro j hj hjk
            by_cases e : j = k
            · subst e; rw [HXE.out]; exact CI.out
            · exact HN.out j hj (by omega)
        · have cb : decide (x < i) = false := decide_eq_false (by omega)
          have CI := hid ci
          clear ci
          obtain ⟨ad', cap, W2, cap3, cs, r1, r2, r3, r4, r5, r6⟩ := use_mem HV.out H1.out HS.out HT.out.st i k hk HT.out.sm
          have hL' : L.take k ++ i :: L.drop k = insL L i := ins_at L i k HT.out.sorted HI.out.2.2 hk HN.out (fun hj => by rw [HXE.out]; have := CI.out; omega)
          have hlen := insL_len L i HI.out.2.2
          rw [hL'] at r4
          have hsrt := insL_sorted L i HT.out.sorted
          have hinn := In_insL HT.out.inn i HI.out.1 HI.out.2.1
          have hp := TS.put (L' := insL L i) HT.out HS.out r5 r6 cap3 cs (by omega) (Nat.le_trans (len_le n _ hsrt hinn) HT.out.n1) r4 hsrt hinn H1.out
          rw [hlen] at hp
          have HP := hid hp
          have R1 := hid r1
          have R2 := hid r2
          have htl := HT.out.lt
          have hcB : (wr.drew.alloc (.cells #[.int .i64 (i : Int)] 3)).cell? ⟨t, 1, none⟩ = some (.slice (some ad) L.length c) := (Below.cell (below_alloc (below_drew (Below.refl _ _)) _) htl).trans hc1
          have hW2 : W2.heap[t]? = some (.cells #[.int .i64 (n : Int), .slice (some ad) L.length c] 38 (0, 0)) := (r5.block t htl).trans H1.out
          have hcC : W2.cell? ⟨t, 1, none⟩ = some (.slice (some ad) L.length c) := blk_cell hW2 1
          have hfz : (W2.alloc (.cells cs 3)).frozen? ⟨t, 1, none⟩ = false := blk_frozen (blk_alloc hW2 _) 1
          have hcD : (W2.alloc (.cells cs 3)).cell? ⟨t, 1, none⟩ = some (.slice (some ad) L.length c) := blk_cell (blk_alloc hW2 _) 1
          have s47 := cut3 (some ad) L.length c k (Nat.le_trans hk HV.out.len)
          have s55 := cutlo (some ad) L.length c k hk
          obtain ⟨A5, hA5⟩ : ∃ A5, (if c = k then (some ad) else ((some ad) : Option Addr).map (·.add k)) = A5 := ⟨_, rfl⟩
          rw [hA5] at s55
          have R1 := R1.out
          rw [hA5] at R1
          have R1 := hid R1
          clear r1 r2 r3 r4 r5 r6 hL' hW2 hlen hsrt hinn hp
          go_upto_region 4 with fail
          go_region_law (first | (refine step_append_run rfl (.tmp 49) (.tmp 55) 22 22 rfl _ _ rfl rfl _ _ R1.out ?_) | (refine step_append_run rfl (.tmp 47) (.tmp 56) 22 22 rfl _ _ rfl rfl _ _ R2.out ?_))
          all_goals (go_wp2 <;> exact ⟨rfl, .tuple #[], by simp [results, Tryd.results23], rfl, HP.out.1, HP.out.2⟩)
      · have c4b0 : decide (k < L.length) = false := decide_eq_false cj
        obtain ⟨ad', cap, W2, cap3, cs, r1, r2, r3, r4, r5, r6⟩ := use_mem HV.out H1.out HS.out HT.out.st i k hk HT.out.sm
        have hL' : L.take k ++ i :: L.drop k = insL L i := ins_at L i k HT.out.sorted HI.out.2.2 hk HN.out (fun hj => absurd hj cj)
        have hlen := insL_len L i HI.out.2.2
        rw [hL'] at r4
        have hsrt := insL_sorted L i HT.out.sorted
        have hinn := In_insL HT.out.inn i HI.out.1 HI.out.2.1
        have hp := TS.put (L' := insL L i) HT.out HS.out r5 r6 cap3 cs (by omega) (Nat.le_trans (len_le n _ hsrt hinn) HT.out.n1) r4 hsrt hinn H1.out
        rw [hlen] at hp
        have HP := hid hp
        have R1 := hid r1
        have R2 := hid r2
        have htl := HT.out.lt
        have hcB : (wr.drew.alloc (.cells #[.int .i64 (i : Int)] 3)).cell? ⟨t, 1, none⟩ = some (.slice A L.length c) := (Below.cell (below_alloc (below_drew (Below.refl _ _)) _) htl).trans hc1
        have hW2 : W2.heap[t]? = some (.cells #[.int .i64 (n : Int), .slice A L.length c] 38 (0, 0)) := (r5.block t htl).trans H1.out
        have hcC : W2.cell? ⟨t, 1, none⟩ = some (.slice A L.length c) := blk_cell hW2 1
        have hfz : (W2.alloc (.cells cs 3)).frozen? ⟨t, 1, none⟩ = false := blk_frozen (blk_alloc hW2 _) 1
        have hcD : (W2.alloc (.cells cs 3)).cell? ⟨t, 1, none⟩ = some (.slice A L.length c) := blk_cell (blk_alloc hW2 _) 1
        have s47 := cut3 A L.length c k (Nat.le_trans hk HV.out.len)
        have s55 := cutlo A L.length c k hk
        obtain ⟨A5, hA5⟩ : ∃ A5, (if c = k then A else (A : Option Addr).map (·.add k)) = A5 := ⟨_, rfl⟩
        rw [hA5] at s55
        have R1 := R1.out
        rw [hA5] at R1
        have R1 := hid R1
        clear r1 r2 r3 r4 r5 r6 hL' hW2 hlen hsrt hinn hp
        go_upto_region 4 with fail
        go_region_law (first | (refine step_append_run rfl (.tmp 49) (.tmp 55) 22 22 rfl _ _ rfl rfl _ _ R1.out ?_) | (refine step_append_run rfl (.tmp 47) (.tmp 56) 22 22 rfl _ _ rfl rfl _ _ R2.out ?_))
        all_goals (go_wp2 <;> exact ⟨rfl, .tuple #[], by simp [results, Tryd.results23], rfl, HP.out.1, HP.out.2⟩)
end Go.Proofs.YtlojhiacaleokaaDoor.Pa
