/- palloc: Give. -/
import Derived.Test.YtlojhiacaleokaaDoorPd
import Derived.Laws.Closers25b
namespace Go.Proofs.YtlojhiacaleokaaDoor.Pa
open Go.RowKit
set_option linter.unusedVariables false
set_option linter.unusedSimpArgs false
/-- A word without a bit, as the machine takes it away. -/
def clr (x r : Nat) : Nat := (bits BinOp.andNot IntKind.u64 (x : Int) (IntKind.u64.wrap (2 ^ r))).toNat
theorem clr_is (x r : Nat) : bits BinOp.andNot IntKind.u64 (x : Int) (IntKind.u64.wrap (2 ^ r)) = (clr x r : Int) := (Int.toNat_of_nonneg (bits_lo_u64 _ _ _)).symm
theorem clr_lt (x r : Nat) : clr x r < 18446744073709551616 := by
  have h1 := bits_hi_u64 BinOp.andNot (x : Int) (IntKind.u64.wrap (2 ^ r))
  have h2 := clr_is x r
  generalize bits BinOp.andNot IntKind.u64 (x : Int) (IntKind.u64.wrap (2 ^ r)) = z at h1 h2
  omega
def del (xs : List Nat) (i : Int) : List Nat := xs.set (i / 64).toNat (clr (xs.getD (i / 64).toNat 0) (i % 64).toNat)
theorem give_no {w : World} {b g : Nat} {n free : Int} {xs : List Nat} (h : Pg w b g n free xs) (i : Int) (hn : has n xs i = false) :
    Calls Tryd.prog 11 #[.pointer (some ⟨b, 0, none⟩), .int .i64 i] w fun e w' => e = .returned (.bool false) ∧ w' = w := by
  have hh := has_ h i
  clear h
  rw [hn] at hh
  go_enter Tryd.func11, Tryd.ntmps11
  go_wp2_with (first | (go_at_call 15; refine hh.mono ?_; rintro e w' ⟨rfl, rfl⟩))
  go_ret
  exact ⟨rfl, rfl⟩
set_option maxHeartbeats 1000000 in
theorem give_ {w : World} {b g : Nat} {n free : Int} {xs : List Nat} (h : Pg w b g n free xs) (i : Int) (hi : wi n i = true) (hn : has n xs i = true) (hfl : -1000000000 ≤ free) (hfh : free ≤ 1000000000) :
    Calls Tryd.prog 11 #[.pointer (some ⟨b, 0, none⟩), .int .i64 i] w fun e w' => e = .returned (.bool true) ∧ Pg w' b g n (free + 1) (del xs i) ∧ Fr b g w w' := by
  have hh := has_ h i
  rw [hn] at hh
  have c12 : 1 ≤ i ∧ i ≤ n := by simpa [wi] using hi
  obtain ⟨m, rfl⟩ := Int.eq_ofNat_of_zero_le (show 0 ≤ i by omega)
  have hlen := h.len
  obtain ⟨q, hqe⟩ : ∃ q, m / 64 = q := ⟨_, rfl⟩
  obtain ⟨r, hre⟩ : ∃ r, m % 64 = r := ⟨_, rfl⟩
  have hm : q < xs.length := by omega
  have h2 := h.c2
  have hc := h.cell q hm
  have hx := h.lt _ (List.getElem_mem hm)
  obtain ⟨x, hxe⟩ : ∃ x, xs[q] = x := ⟨_, rfl⟩
  rw [hxe] at hc hx
  have hq : ((m : Int) / 64) = (q : Int) := by omega
  have hr : ((m : Int) % 64) = (r : Int) := by omega
  have hz : (q : Int) < (xs.length : Int) := by omega
  have hm0 : (0 : Int) ≤ (m : Int) := by omega
  have hrl := hid (show r < 64 by omega)
  have hwq : wrap64 (q : Int) = (q : Int) := by have := h.n1; unfold wrap64; omega
  have hq0 : (0 : Int) ≤ (q : Int) := Int.natCast_nonneg q
  have HX := hid hx
  have HH := hid h
  have hf : w.frozen? ⟨g, q, none⟩ = false := by have := h.row; simp [World.frozen?, this]
  have h1 := h.c1
  have hf1 : w.frozen? ⟨b, 1, none⟩ = false := by have := h.obj; simp [World.frozen?, this]
  have hne := h.ne
  have hne' := Ne.symm h.ne
  have HL := hid hlen
  have hdel : del xs (m : Int) = xs.set q (clr x r) := by
    unfold del
    rw [hq, hr, Int.toNat_natCast, Int.toNat_natCast, List.getD_eq_getElem?_getD, List.getElem?_eq_getElem hm, hxe]
    rfl
  have hwf : wrap64 (free + 1) = free + 1 := by unfold wrap64; omega
  have hlt := clr_lt x r
  have HLT := hid hlt
  have HO := hid (clr_is x r)
  rw [hdel]
  clear h c12 hqe hre hlen hx hi hn hdel hlt hfl hfh
  go_enter Tryd.func11, Tryd.ntmps11
  go_upto_region 3 with (first | (go_at_call 15; refine hh.mono ?_; rintro e w' ⟨rfl, rfl⟩))
  go_region
  rw [HO.out]
  go_wp2
  go_ret
  exact ⟨rfl, ((HH.out.word q (clr x r) HLT.out).frees (free + 1)).drew, (((Fr.refl b g _).setg q _).setb 1 _).drew⟩
end Go.Proofs.YtlojhiacaleokaaDoor.Pa
