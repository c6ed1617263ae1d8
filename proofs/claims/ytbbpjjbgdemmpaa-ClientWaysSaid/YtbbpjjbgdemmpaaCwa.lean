/- sumpref27.May by hand: what it answers for any two numbers. -/
import Derived.Test.YtbbpjjbgdemmpaaPClientCallsx2
import Derived.WalkLawsBesides
import Derived.WalkSpells
namespace Go.Proofs.Ytbbpjjbgdemmpaa.ClientWaysW
open Go.RowKit YtbbpjjbgdemmpaaW.PrintWords PClientCalls

def mayR (a b : Int) : Bool := (a == 0 && (b == 1 || b == 2)) || (a == 1 && b == 2) || (a == 2 && (b == 2 || b == 3)) || (a == 3 && (b == 0 || b == 2 || b == 4)) || (a == 4 && (b == 0 || b == 4))
theorem mayR_eq (a b : Int) : client_May.b a b = mayR a b := by
  rw [Bool.eq_iff_iff]
  simp [client_May.b, mayR, List.range, List.range.loop, client_May.fr, client_May.to]
  omega
theorem mayR_is {a b : Int} {x : Bool} (h : x = true ↔ ((a = 0 ∧ (b = 1 ∨ b = 2)) ∨ (a = 1 ∧ b = 2) ∨ (a = 2 ∧ (b = 2 ∨ b = 3)) ∨ (a = 3 ∧ (b = 0 ∨ b = 2 ∨ b = 4)) ∨ (a = 4 ∧ (b = 0 ∨ b = 4)))) : Ending.returned (.bool x) = .returned (.bool (mayR a b)) := by
  have : x = mayR a b := by
    rw [Bool.eq_iff_iff, h]; unfold mayR; simp; omega
  rw [this]

set_option maxHeartbeats 400000 in
theorem may0 (b : Int) (w : World) : Calls Try.prog 16 #[.int .i64 0, .int .i64 b] w fun e w' => e = .returned (.bool (mayR 0 b)) ∧ Below w.heap.size w w' := by
  go_enter Try.func16, Try.ntmps16
  go_wp2
  go_loop [25] (fun i => ∃ k : Nat, k ≤ 2 ∧ i = .int .i64 k ∧ ((0 < k → ¬ b = 1) ∧ (1 < k → ¬ b = 2))) (fun i => 2 - (intOf i).toNat)
  case atStart => exact ⟨0, by omega, rfl, by omega⟩
  case round =>
    obtain ⟨k, hk, rfl, hn⟩ := hrel
    rcases (show k = 0 ∨ k = 1 ∨ k = 2 by omega) with rfl | rfl | rfl
    · by_cases hb : b = 1
      · subst hb
        have hn' := Aside0.mk hn; clear hn
        go_wp2
        go_ret
        exact ⟨mayR_is (by simp), by repeat (first | exact Below.refl _ _ | apply below_alloc)⟩
      · have hn' := Aside0.mk hn; clear hn
        have hb1 : ((1 : Int) == b) = false := beq_eq_false_iff_ne.2 (Ne.symm hb)
        have hb' := Aside0.mk hb; clear hb
        go_wp2
        go_round
        case rel => exact ⟨1, by omega, by go_num, by have h1 := hn'.out; have h2 := hb'.out; omega⟩
        case measure => simp [intOf]
    · by_cases hb : b = 2
      · subst hb
        have hn' := Aside0.mk hn; clear hn
        go_wp2
        go_ret
        exact ⟨mayR_is (by simp), by repeat (first | exact Below.refl _ _ | apply below_alloc)⟩
      · have hn' := Aside0.mk hn; clear hn
        have hb1 : ((2 : Int) == b) = false := beq_eq_false_iff_ne.2 (Ne.symm hb)
        have hb' := Aside0.mk hb; clear hb
        go_wp2
        go_round
        case rel => exact ⟨2, by omega, by go_num, by have h1 := hn'.out; have h2 := hb'.out; omega⟩
        case measure => simp [intOf]
    · have hn' := Aside0.mk hn; clear hn
      go_wp2
      go_ret
      exact ⟨mayR_is (by have h1 := hn'.out; simp; omega), by repeat (first | exact Below.refl _ _ | apply below_alloc)⟩
set_option maxHeartbeats 400000 in
theorem may1 (b : Int) (w : World) : Calls Try.prog 16 #[.int .i64 1, .int .i64 b] w fun e w' => e = .returned (.bool (mayR 1 b)) ∧ Below w.heap.size w w' := by
  go_enter Try.func16, Try.ntmps16
  go_wp2
  go_loop [25] (fun i => ∃ k : Nat, k ≤ 1 ∧ i = .int .i64 k ∧ ((0 < k → ¬ b = 2))) (fun i => 1 - (intOf i).toNat)
  case atStart => exact ⟨0, by omega, rfl, by omega⟩
  case round =>
    obtain ⟨k, hk, rfl, hn⟩ := hrel
    rcases (show k = 0 ∨ k = 1 by omega) with rfl | rfl
    · by_cases hb : b = 2
      · subst hb
        have hn' := Aside0.mk hn; clear hn
        go_wp2
        go_ret
        exact ⟨mayR_is (by simp), by repeat (first | exact Below.refl _ _ | apply below_alloc)⟩
      · have hn' := Aside0.mk hn; clear hn
        have hb1 : ((2 : Int) == b) = false := beq_eq_false_iff_ne.2 (Ne.symm hb)
        have hb' := Aside0.mk hb; clear hb
        go_wp2
        go_round
        case rel => exact ⟨1, by omega, by go_num, by have h1 := hn'.out; have h2 := hb'.out; omega⟩
        case measure => simp [intOf]
    · have hn' := Aside0.mk hn; clear hn
      go_wp2
      go_ret
      exact ⟨mayR_is (by have h1 := hn'.out; simp; omega), by repeat (first | exact Below.refl _ _ | apply below_alloc)⟩
set_option maxHeartbeats 400000 in
theorem may2 (b : Int) (w : World) : Calls Try.prog 16 #[.int .i64 2, .int .i64 b] w fun e w' => e = .returned (.bool (mayR 2 b)) ∧ Below w.heap.size w w' := by
  go_enter Try.func16, Try.ntmps16
  go_wp2
  go_loop [25] (fun i => ∃ k : Nat, k ≤ 2 ∧ i = .int .i64 k ∧ ((0 < k → ¬ b = 2) ∧ (1 < k → ¬ b = 3))) (fun i => 2 - (intOf i).toNat)
  case atStart => exact ⟨0, by omega, rfl, by omega⟩
  case round =>
    obtain ⟨k, hk, rfl, hn⟩ := hrel
    rcases (show k = 0 ∨ k = 1 ∨ k = 2 by omega) with rfl | rfl | rfl
    · by_cases hb : b = 2
      · subst hb
        have hn' := Aside0.mk hn; clear hn
        go_wp2
        go_ret
        exact ⟨mayR_is (by simp), by repeat (first | exact Below.refl _ _ | apply below_alloc)⟩
      · have hn' := Aside0.mk hn; clear hn
        have hb1 : ((2 : Int) == b) = false := beq_eq_false_iff_ne.2 (Ne.symm hb)
        have hb' := Aside0.mk hb; clear hb
        go_wp2
        go_round
        case rel => exact ⟨1, by omega, by go_num, by have h1 := hn'.out; have h2 := hb'.out; omega⟩
        case measure => simp [intOf]
    · by_cases hb : b = 3
      · subst hb
        have hn' := Aside0.mk hn; clear hn
        go_wp2
        go_ret
        exact ⟨mayR_is (by simp), by repeat (first | exact Below.refl _ _ | apply below_alloc)⟩
      · have hn' := Aside0.mk hn; clear hn
        have hb1 : ((3 : Int) == b) = false := beq_eq_false_iff_ne.2 (Ne.symm hb)
        have hb' := Aside0.mk hb; clear hb
        go_wp2
        go_round
        case rel => exact ⟨2, by omega, by go_num, by have h1 := hn'.out; have h2 := hb'.out; omega⟩
        case measure => simp [intOf]
    · have hn' := Aside0.mk hn; clear hn
      go_wp2
      go_ret
      exact ⟨mayR_is (by have h1 := hn'.out; simp; omega), by repeat (first | exact Below.refl _ _ | apply below_alloc)⟩
set_option maxHeartbeats 400000 in
theorem may3 (b : Int) (w : World) : Calls Try.prog 16 #[.int .i64 3, .int .i64 b] w fun e w' => e = .returned (.bool (mayR 3 b)) ∧ Below w.heap.size w w' := by
  go_enter Try.func16, Try.ntmps16
  go_wp2
  go_loop [25] (fun i => ∃ k : Nat, k ≤ 3 ∧ i = .int .i64 k ∧ ((0 < k → ¬ b = 0) ∧ (1 < k → ¬ b = 2) ∧ (2 < k → ¬ b = 4))) (fun i => 3 - (intOf i).toNat)
  case atStart => exact ⟨0, by omega, rfl, by omega⟩
  case round =>
    obtain ⟨k, hk, rfl, hn⟩ := hrel
    rcases (show k = 0 ∨ k = 1 ∨ k = 2 ∨ k = 3 by omega) with rfl | rfl | rfl | rfl
    · by_cases hb : b = 0
      · subst hb
        have hn' := Aside0.mk hn; clear hn
        go_wp2
        go_ret
        exact ⟨mayR_is (by simp), by repeat (first | exact Below.refl _ _ | apply below_alloc)⟩
      · have hn' := Aside0.mk hn; clear hn
        have hb1 : ((0 : Int) == b) = false := beq_eq_false_iff_ne.2 (Ne.symm hb)
        have hb' := Aside0.mk hb; clear hb
        go_wp2
        go_round
        case rel => exact ⟨1, by omega, by go_num, by have h1 := hn'.out; have h2 := hb'.out; omega⟩
        case measure => simp [intOf]
    · by_cases hb : b = 2
      · subst hb
        have hn' := Aside0.mk hn; clear hn
        go_wp2
        go_ret
        exact ⟨mayR_is (by simp), by repeat (first | exact Below.refl _ _ | apply below_alloc)⟩
      · have hn' := Aside0.mk hn; clear hn
        have hb1 : ((2 : Int) == b) = false := beq_eq_false_iff_ne.2 (Ne.symm hb)
        have hb' := Aside0.mk hb; clear hb
        go_wp2
        go_round
        case rel => exact ⟨2, by omega, by go_num, by have h1 := hn'.out; have h2 := hb'.out; omega⟩
        case measure => simp [intOf]
    · by_cases hb : b = 4
      · subst hb
        have hn' := Aside0.mk hn; clear hn
        go_wp2
        go_ret
        exact ⟨mayR_is (by simp), by repeat (first | exact Below.refl _ _ | apply below_alloc)⟩
      · have hn' := Aside0.mk hn; clear hn
        have hb1 : ((4 : Int) == b) = false := beq_eq_false_iff_ne.2 (Ne.symm hb)
        have hb' := Aside0.mk hb; clear hb
        go_wp2
        go_round
        case rel => exact ⟨3, by omega, by go_num, by have h1 := hn'.out; have h2 := hb'.out; omega⟩
        case measure => simp [intOf]
    · have hn' := Aside0.mk hn; clear hn
      go_wp2
      go_ret
      exact ⟨mayR_is (by have h1 := hn'.out; simp; omega), by repeat (first | exact Below.refl _ _ | apply below_alloc)⟩
set_option maxHeartbeats 400000 in
theorem may4 (b : Int) (w : World) : Calls Try.prog 16 #[.int .i64 4, .int .i64 b] w fun e w' => e = .returned (.bool (mayR 4 b)) ∧ Below w.heap.size w w' := by
  go_enter Try.func16, Try.ntmps16
  go_wp2
  go_loop [25] (fun i => ∃ k : Nat, k ≤ 2 ∧ i = .int .i64 k ∧ ((0 < k → ¬ b = 0) ∧ (1 < k → ¬ b = 4))) (fun i => 2 - (intOf i).toNat)
  case atStart => exact ⟨0, by omega, rfl, by omega⟩
  case round =>
    obtain ⟨k, hk, rfl, hn⟩ := hrel
    rcases (show k = 0 ∨ k = 1 ∨ k = 2 by omega) with rfl | rfl | rfl
    · by_cases hb : b = 0
      · subst hb
        have hn' := Aside0.mk hn; clear hn
        go_wp2
        go_ret
        exact ⟨mayR_is (by simp), by repeat (first | exact Below.refl _ _ | apply below_alloc)⟩
      · have hn' := Aside0.mk hn; clear hn
        have hb1 : ((0 : Int) == b) = false := beq_eq_false_iff_ne.2 (Ne.symm hb)
        have hb' := Aside0.mk hb; clear hb
        go_wp2
        go_round
        case rel => exact ⟨1, by omega, by go_num, by have h1 := hn'.out; have h2 := hb'.out; omega⟩
        case measure => simp [intOf]
    · by_cases hb : b = 4
      · subst hb
        have hn' := Aside0.mk hn; clear hn
        go_wp2
        go_ret
        exact ⟨mayR_is (by simp), by repeat (first | exact Below.refl _ _ | apply below_alloc)⟩
      · have hn' := Aside0.mk hn; clear hn
        have hb1 : ((4 : Int) == b) = false := beq_eq_false_iff_ne.2 (Ne.symm hb)
        have hb' := Aside0.mk hb; clear hb
        go_wp2
        go_round
        case rel => exact ⟨2, by omega, by go_num, by have h1 := hn'.out; have h2 := hb'.out; omega⟩
        case measure => simp [intOf]
    · have hn' := Aside0.mk hn; clear hn
      go_wp2
      go_ret
      exact ⟨mayR_is (by have h1 := hn'.out; simp; omega), by repeat (first | exact Below.refl _ _ | apply below_alloc)⟩
set_option maxHeartbeats 400000 in
theorem mayOut (a b : Int) (h : a < 0 ∨ 4 < a) (w : World) : Calls Try.prog 16 #[.int .i64 a, .int .i64 b] w fun e w' => e = .returned (.bool (mayR a b)) ∧ Below w.heap.size w w' := by
  have h2 : ¬ (0 ≤ a ∧ a ≤ 4) := by omega
  have h2' := Aside0.mk h2; clear h2
  rcases h with h | h
  all_goals
    go_enter Try.func16, Try.ntmps16
    go_wp2
    go_ret
    exact ⟨mayR_is (by have h1 := h2'.out; simp; omega), by repeat (first | exact Below.refl _ _ | apply below_alloc)⟩
theorem may_any (a b : Int) (w : World) : Calls Try.prog 16 #[.int .i64 a, .int .i64 b] w fun e w' => e = .returned (.bool (mayR a b)) ∧ Below w.heap.size w w' := by
  by_cases h : 0 ≤ a ∧ a ≤ 4
  · rcases (show a = 0 ∨ a = 1 ∨ a = 2 ∨ a = 3 ∨ a = 4 by omega) with rfl | rfl | rfl | rfl | rfl
    · exact may0 b w
    · exact may1 b w
    · exact may2 b w
    · exact may3 b w
    · exact may4 b w
  · exact mayOut a b (by omega) w
end Go.Proofs.Ytbbpjjbgdemmpaa.ClientWaysW
