/- palloc: use. -/
import Derived.Test.YtlojhiacaleokaaDoorPb
import Derived.RegionTactic
import Derived.Deep.CutRange
namespace Go.Proofs.YtlojhiacaleokaaDoor.Pa
open Go.RowKit
set_option linter.unusedVariables false
set_option linter.unusedSimpArgs false
/-- The words with page i's bit set. -/
def put (xs : List Nat) (i : Int) : List Nat := xs.set (i / 64).toNat (xs.getD (i / 64).toNat 0 ||| 2 ^ (i % 64).toNat)
theorem heap_set {w : World} {g q : Nat} {cs : Array Value} {t : TypeId} (h : w.heap[g]? = some (.cells cs t (0, 0))) (v : Value) : (w.setCell ⟨g, q, none⟩ v).heap[g]? = some (.cells (cs.setIfInBounds q v) t (0, 0)) := by
  rw [setCell_eq_setRow w g q cs t (0, 0) v h, setRow_heap w g cs _ t (0, 0) h]
theorem Pg.word {w : World} {b g : Nat} {n free : Int} {xs : List Nat} (h : Pg w b g n free xs) (q y : Nat) (hy : y < 18446744073709551616) : Pg (w.setCell ⟨g, q, none⟩ (.int .u64 y)) b g n free (xs.set q y) := by
  refine ⟨?_, ?_, h.ne, by rw [List.length_set]; exact h.len, h.n0, h.n1, ?_⟩
  · rw [List.length_set]
    exact (Below.heap_setCell w ⟨g, q, none⟩ _ b h.ne).trans h.obj
  · rw [heap_set h.row]
    simp [List.map_set]
  · intro x hx
    rcases List.mem_or_eq_of_mem_set hx with hx | rfl
    · exact h.lt x hx
    · exact hy
theorem Pg.frees {w : World} {b g : Nat} {n free : Int} {xs : List Nat} (h : Pg w b g n free xs) (f' : Int) : Pg (w.setCell ⟨b, 1, none⟩ (.int .i64 f')) b g n f' xs :=
  ⟨(heap_set h.obj _).trans rfl, (Below.heap_setCell w ⟨b, 1, none⟩ _ g (Ne.symm h.ne)).trans h.row, h.ne, h.len, h.n0, h.n1, h.lt⟩
theorem Pg.drew {w : World} {b g : Nat} {n free : Int} {xs : List Nat} (h : Pg w b g n free xs) : Pg w.drew b g n free xs := ⟨h.obj, h.row, h.ne, h.len, h.n0, h.n1, h.lt⟩
theorem or_lt (x r : Nat) (hx : x < 18446744073709551616) (hr : r < 64) : x ||| 2 ^ r < 18446744073709551616 := by
  have h64 : (2 : Nat) ^ 64 = 18446744073709551616 := by decide
  rw [← h64] at hx ⊢
  exact Nat.or_lt_two_pow hx (Nat.pow_lt_pow_right (by decide) hr)
theorem or_is (x r : Nat) (hx : x < 18446744073709551616) (hr : r < 64) : bits BinOp.or IntKind.u64 (x : Int) (IntKind.u64.wrap (2 ^ r)) = ((x ||| 2 ^ r : Nat) : Int) := by
  have hp : 2 ^ r < 18446744073709551616 := Nat.lt_of_lt_of_le (Nat.pow_lt_pow_right (by decide) hr) (by decide : 2 ^ 64 ≤ 18446744073709551616)
  have e0 : (2 : Int) ^ r = ((2 ^ r : Nat) : Int) := by rw [Int.natCast_pow]; rfl
  have e : IntKind.u64.wrap ((2 : Int) ^ r) = ((2 ^ r : Nat) : Int) := by
    rw [e0]
    generalize 2 ^ r = P at hp ⊢
    rw [IntKind.wrap_u64]
    omega
  rw [e, bits_or_u64_nat x _ hx hp]
set_option maxHeartbeats 1000000 in
theorem use_ {w : World} {b g : Nat} {n free : Int} {xs : List Nat} (h : Pg w b g n free xs) (i : Int) (hi : wi n i = true) (hn : has n xs i = false) (hfl : -1000000000 ≤ free) (hfh : free ≤ 1000000000) :
    Calls Tryd.prog 21 #[.pointer (some ⟨b, 0, none⟩), .int .i64 i] w fun e w' => e = .returned (.tuple #[]) ∧ Pg w' b g n (free - 1) (put xs i) ∧ Fr b g w w' := by
  have hw := within h i
  have hh := has_ h i
  rw [hi] at hw
  rw [hn] at hh
  have c12 : 1 ≤ i ∧ i ≤ n := by simpa [wi] using hi
  obtain ⟨m, rfl⟩ := Int.eq_ofNat_of_zero_le (show 0 ≤ i by omega)
  have hlen := h.len
  obtain ⟨q, hqe⟩ : ∃ q, m / 64 = q := ⟨_, rfl⟩
  obtain ⟨r, hre⟩ : ∃ r, m % 64 = r := ⟨_, rfl⟩
  have hm : q < xs.length := by omega
  have h2 := h.c2
  have hc := h.cell q hm
  have hx := h.lt _ (List.getElem_mem hm)
  obtain ⟨x, hxe⟩ : ∃ x, xs[q] = x := ⟨_, rfl⟩
  rw [hxe] at hc hx
  have hq : ((m : Int) / 64) = (q : Int) := by omega
  have hr : ((m : Int) % 64) = (r : Int) := by omega
  have hz : (q : Int) < (xs.length : Int) := by omega
  have hm0 : (0 : Int) ≤ (m : Int) := by omega
  have hrl := hid (show r < 64 by omega)
  have hwq : wrap64 (q : Int) = (q : Int) := by have := h.n1; unfold wrap64; omega
  have hq0 : (0 : Int) ≤ (q : Int) := Int.natCast_nonneg q
  have HX := hid hx
  have HH := hid h
  have hf : w.frozen? ⟨g, q, none⟩ = false := by have := h.row; simp [World.frozen?, this]
  have h1 := h.c1
  have hf1 : w.frozen? ⟨b, 1, none⟩ = false := by have := h.obj; simp [World.frozen?, this]
  have hne := h.ne
  have hne' := Ne.symm h.ne
  have HL := hid hlen
  have hput : put xs (m : Int) = xs.set q (x ||| 2 ^ r) := by
    unfold put
    rw [hq, hr, Int.toNat_natCast, Int.toNat_natCast, List.getD_eq_getElem?_getD, List.getElem?_eq_getElem hm, hxe]
    rfl
  have hwf : wrap64 (free - 1) = free - 1 := by unfold wrap64; omega
  have hlt : x ||| 2 ^ r < 18446744073709551616 := or_lt x r hx hrl.out
  have HLT := hid hlt
  have HO := hid (or_is x r hx hrl.out)
  rw [hput]
  clear h c12 hqe hre hlen hx hi hn hput hlt hfl hfh
  go_enter Tryd.func21, Tryd.ntmps21
  go_upto_region 1 with (first | (go_at_call 24; refine hw.mono ?_; rintro e w' ⟨rfl, rfl⟩) | (go_at_call 15; refine hh.mono ?_; rintro e w' ⟨rfl, rfl⟩))
  go_region
  rw [HO.out]
  go_wp2
  exact ⟨rfl, .tuple #[], by simp [results, Tryd.results21], rfl, ((HH.out.word q (x ||| 2 ^ r) HLT.out).frees (free - 1)).drew, (((Fr.refl b g _).setg q _).setb 1 _).drew⟩
end Go.Proofs.YtlojhiacaleokaaDoor.Pa
