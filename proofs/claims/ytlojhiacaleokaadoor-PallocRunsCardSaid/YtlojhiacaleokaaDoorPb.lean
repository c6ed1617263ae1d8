/- palloc: Has. -/
import Derived.Test.YtlojhiacaleokaaDoorPa
import Derived.IntWalk
import Derived.Below
import Derived.Laws.Bits64b
namespace Go.Proofs.YtlojhiacaleokaaDoor.Pa
open Go.RowKit
set_option linter.unusedVariables false
set_option linter.unusedSimpArgs false
theorem bit_is (x r : Nat) (hx : x < 18446744073709551616) : (bits BinOp.and IntKind.u64 ((x : Int) / 2 ^ r) 1 == 1) = x.testBit r := by
  have e : ((x : Int) / 2 ^ r) = ((x / 2 ^ r : Nat) : Int) := by
    rw [Int.natCast_ediv, Int.natCast_pow]; rfl
  have h := bits_and_u64_nat (x / 2 ^ r) 1 (Nat.lt_of_le_of_lt (Nat.div_le_self _ _) hx) (by decide)
  rw [e, show (1 : Int) = ((1 : Nat) : Int) from rfl, h, Nat.and_one_is_mod, Nat.testBit_eq_decide_div_mod_eq, Bool.eq_iff_iff, beq_iff_eq, decide_eq_true_iff]
  exact Int.ofNat_inj
theorem hid {p : Prop} (h : p) : Hid p := h
set_option maxHeartbeats 1000000 in
theorem has_ {w : World} {b g : Nat} {n free : Int} {xs : List Nat} (h : Pg w b g n free xs) (i : Int) :
    Calls Tryd.prog 15 #[.pointer (some ⟨b, 0, none⟩), .int .i64 i] w fun e w' => e = .returned (.bool (has n xs i)) ∧ w' = w := by
  have hw := within h i
  by_cases c : wi n i = true
  · have c12 : 1 ≤ i ∧ i ≤ n := by simpa [wi] using c
    obtain ⟨m, rfl⟩ := Int.eq_ofNat_of_zero_le (show 0 ≤ i by omega)
    have hlen := h.len
    obtain ⟨q, hqe⟩ : ∃ q, m / 64 = q := ⟨_, rfl⟩
    obtain ⟨r, hre⟩ : ∃ r, m % 64 = r := ⟨_, rfl⟩
    have hm : q < xs.length := by omega
    have h2 := h.c2
    have hc := h.cell q hm
    have hx := h.lt _ (List.getElem_mem hm)
    obtain ⟨x, hxe⟩ : ∃ x, xs[q] = x := ⟨_, rfl⟩
    rw [hxe] at hc hx
    have hq : ((m : Int) / 64) = (q : Int) := by omega
    have hr : ((m : Int) % 64) = (r : Int) := by omega
    have hz : (q : Int) < (xs.length : Int) := by omega
    have hm0 : (0 : Int) ≤ (m : Int) := by omega
    have hrl := hid (show r < 64 by omega)
    have hwq : wrap64 (q : Int) = (q : Int) := by have := h.n1; unfold wrap64; omega
    have hq0 : (0 : Int) ≤ (q : Int) := by omega
    have hans : has n xs (m : Int) = x.testBit r := by
      unfold has
      rw [c, hq, hr, Int.toNat_natCast, Int.toNat_natCast, List.getD_eq_getElem?_getD, List.getElem?_eq_getElem hm, hxe]
      rfl
    rw [hans]
    have HX := hid hx
    clear h c12 hqe hre hxe hlen hans hx
    rw [c] at hw
    go_enter Tryd.func15, Tryd.ntmps15
    go_wp2_with (first | (go_at_call 24; refine hw.mono ?_; rintro e w' ⟨rfl, rfl⟩))
    go_ret
    exact ⟨congrArg (fun z => Ending.returned (.bool z)) (bit_is x r HX.out), rfl⟩
  · have c : wi n i = false := by simpa using c
    have hf : has n xs i = false := by unfold has; rw [c]; rfl
    rw [c] at hw
    rw [hf]
    clear h
    go_enter Tryd.func15, Tryd.ntmps15
    go_wp2_with (first | (go_at_call 24; refine hw.mono ?_; rintro e w' ⟨rfl, rfl⟩))
    go_ret
    exact ⟨rfl, rfl⟩
end Go.Proofs.YtlojhiacaleokaaDoor.Pa
