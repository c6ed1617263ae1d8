/- Words: the reader: Num, New. -/
import Derived.Test.YtlojhiacaleokaaRdr
namespace Go.Proofs.Ytlojhiacaleokaa.PWD
open Go.RowKit Go.Proofs.YtlojhiacaleokaaW.PrintWords Go.Proofs.YtlojhiacaleokaaW.PrintLast Go.Proofs.YtlojhiacaleokaaW.PrintMore
set_option linter.unusedVariables false
set_option linter.unusedSimpArgs false
set_option maxHeartbeats 2000000 in
theorem rnum_bad (base g : Nat) (L : List Int) (w : World) (HR : Rd w base g L true) :
    Calls Try.prog 19 #[.pointer (some ⟨g, 0, none⟩)] w fun e w' => e = .returned (.int .i64 0) ∧ Rd w' base g L true ∧ Below base w w' := by
  have HT := Aside0.mk (take_bad base g L 1 w HR)
  clear HR
  go_enter Try.func19, Try.ntmps19
  go_wp2_with (first | (go_at_call 25; (with_reducible refine HT.out.mono ?_); rintro e w1 ⟨rfl, hr1, hb1⟩))
  go_ret
  exact ⟨rfl, hr1, hb1⟩
set_option maxHeartbeats 2000000 in
theorem rnum_nil (base g : Nat) (w : World) (HR : Rd w base g [] false) :
    Calls Try.prog 19 #[.pointer (some ⟨g, 0, none⟩)] w fun e w' => e = .returned (.int .i64 0) ∧ Rd w' base g [] true ∧ Below base w w' := by
  have HT := Aside0.mk (take_over base g [] 1 w (by decide) HR)
  clear HR
  go_enter Try.func19, Try.ntmps19
  go_wp2_with (first | (go_at_call 25; (with_reducible refine HT.out.mono ?_); rintro e w1 ⟨rfl, hr1, hb1⟩))
  go_ret
  exact ⟨rfl, hr1, hb1⟩
theorem C_head {w : World} {A : Option Addr} {x : Int} (h : Kd.C (Kd.int .u64) w A 1 [x]) : ∃ ad, A = some ad ∧ w.cell? ad = some (.int .u64 x) := by
  obtain ⟨ad, c, e, _, hK, hc0⟩ := Kd.C_get h (0 : Int) 0 (by decide) (by decide)
  obtain rfl : c = [.int .u64 x] := hK
  have h0 := hc0 0 (.int .u64 x) rfl
  have e0 : ad.add ((0 : Int).toNat * (Kd.int .u64).sz + 0) = ad := by
    rcases ad with ⟨b, o, p⟩
    cases p <;> simp [Addr.add]
  rw [e0] at h0
  exact ⟨ad, e, h0⟩
set_option maxHeartbeats 2000000 in
theorem rnum_big (base g : Nat) (x : Int) (t : List Int) (w : World) (hx : 4611686018427387904 < x) (HR : Rd w base g (x :: t) false) :
    Calls Try.prog 19 #[.pointer (some ⟨g, 0, none⟩)] w fun e w' => e = .returned (.int .i64 0) ∧ Rd w' base g t true ∧ Below base w w' := by
  have HT : Aside0 (Calls Try.prog 25 #[.pointer (some ⟨g, 0, none⟩), .int .i64 1] w fun e w' => ∃ A c, e = .returned (.slice A 1 c) ∧ 1 ≤ c ∧ Kd.C (Kd.int .u64) w' A 1 [x] ∧ Rd w' base g t false ∧ Below base w w') := ⟨take_ok base g (x :: t) 1 w (by simp) HR⟩
  have hd : decide (4611686018427387904 < x) = true := decide_eq_true hx
  clear HR hx
  go_enter Try.func19, Try.ntmps19
  go_wp2_with (first | (go_at_call 25; (with_reducible refine HT.out.mono ?_); rintro e w1 ⟨A, c, rfl, hc, hC, hr1, hb1⟩; obtain ⟨ad, rfl, hcell⟩ := C_head hC) | (go_at_call 24; (with_reducible refine (spoil_calls base g t false _ hr1).mono ?_); rintro e w2 ⟨rfl, hr2, hb2⟩))
  go_ret
  exact ⟨rfl, hr2, hb1.trans hb2⟩
set_option maxHeartbeats 2000000 in
theorem rnum_ok (base g : Nat) (x : Int) (t : List Int) (w : World) (h0 : 0 ≤ x) (hx : x ≤ 4611686018427387904) (HR : Rd w base g (x :: t) false) :
    Calls Try.prog 19 #[.pointer (some ⟨g, 0, none⟩)] w fun e w' => e = .returned (.int .i64 x) ∧ Rd w' base g t false ∧ Below base w w' := by
  have HT : Aside0 (Calls Try.prog 25 #[.pointer (some ⟨g, 0, none⟩), .int .i64 1] w fun e w' => ∃ A c, e = .returned (.slice A 1 c) ∧ 1 ≤ c ∧ Kd.C (Kd.int .u64) w' A 1 [x] ∧ Rd w' base g t false ∧ Below base w w') := ⟨take_ok base g (x :: t) 1 w (by simp) HR⟩
  have hd : decide (4611686018427387904 < x) = false := decide_eq_false (by omega)
  have hw : wrap64 x = x := wrap64_in (by omega) (by omega)
  clear HR hx h0
  go_enter Try.func19, Try.ntmps19
  go_wp2_with (first | (go_at_call 25; (with_reducible refine HT.out.mono ?_); rintro e w1 ⟨A, c, rfl, hc, hC, hr1, hb1⟩; obtain ⟨ad, rfl, hcell⟩ := C_head hC))
  go_ret
  exact ⟨by rw [hw]; rfl, hr1, hb1⟩
/-! What Num answers, and what it leaves. -/
def nv (L : List Int) (bad : Bool) : Int := if bad = true then 0 else match L with | [] => 0 | x :: _ => if 4611686018427387904 < x then 0 else x
def nl (L : List Int) (bad : Bool) : List Int := if bad = true then L else L.tail
def nb (L : List Int) (bad : Bool) : Bool := if bad = true then true else match L with | [] => true | x :: _ => decide (4611686018427387904 < x)
theorem rnum_calls (base g : Nat) (L : List Int) (bad : Bool) (w : World) (hL : ∀ x ∈ L, 0 ≤ x) (HR : Rd w base g L bad) :
    Calls Try.prog 19 #[.pointer (some ⟨g, 0, none⟩)] w fun e w' => e = .returned (.int .i64 (nv L bad)) ∧ Rd w' base g (nl L bad) (nb L bad) ∧ Below base w w' := by
  cases bad with
  | true => exact rnum_bad base g L w HR
  | false =>
    cases L with
    | nil => exact rnum_nil base g w HR
    | cons x t =>
      by_cases c : 4611686018427387904 < x
      · have e1 : nv (x :: t) false = 0 := by simp [nv, c]
        have e2 : nb (x :: t) false = true := by simp [nb, c]
        rw [e1, e2]
        exact rnum_big base g x t w c HR
      · have e1 : nv (x :: t) false = x := by simp [nv, c]
        have e2 : nb (x :: t) false = false := by simp [nb]; omega
        rw [e1, e2]
        exact rnum_ok base g x t w (hL x (by simp)) (by omega) HR
theorem nl_mem {L : List Int} {bad : Bool} {x : Int} (h : x ∈ nl L bad) : x ∈ L := by
  unfold nl at h
  split at h
  · exact h
  · exact List.mem_of_mem_tail h
set_option maxHeartbeats 2000000 in
theorem new_calls (A0 : Option Addr) (c0 : Nat) (l0 : List Int) (w : World) (hr0 : Kd.C (Kd.int .u64) w A0 l0.length l0) (hc0 : l0.length ≤ c0) (hx : l0.length < 17592186044416) :
    Calls Try.prog 16 #[.slice A0 l0.length c0] w fun e w' => ∃ g, e = .returned (.pointer (some ⟨g, 0, none⟩)) ∧ Rd w' w.heap.size g l0 false ∧ Below w.heap.size w w' := by
  have H0 := Aside0.mk hr0
  have H1 := Aside0.mk hc0
  have HF : Aside0 (slices_Clone_uint64_uint64.f l0 = some l0) := ⟨if_pos hx⟩
  clear hr0 hc0
  go_enter Try.func16, Try.ntmps16
  go_wp2_with (go_at_call 23; (with_reducible refine (slices_Clone_uint64_uint64.calls A0 c0 l0 l0 w H0.out H1.out HF.out).mono ?_); rintro e w1 ⟨v0, rfl, hR, hb⟩; obtain ⟨A, c, rfl⟩ := Kd.R_slice hR)
  go_ret
  have hq := Kd.R_reads' hR
  refine ⟨w1.heap.size, rfl, ⟨A, c, blk_new w1 _, below_size hb, hq.2.1, Kd.F_alloc (Kd.F_mono (Kd.C_F (Kd.heap_int .u64) hq.2.2) (fun k hk => by omega)) _⟩, below_alloc hb _⟩
end Go.Proofs.Ytlojhiacaleokaa.PWD
