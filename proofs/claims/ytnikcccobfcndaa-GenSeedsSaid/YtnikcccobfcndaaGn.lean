/- gen.Next on natural numbers: it is injective. -/
import Derived.Test.YtnikcccobfcndaaPGenSeedsx1h
import Derived.Test.YtnikcccobfcndaaQ
import Derived.Laws.Bits64
namespace Go.Proofs.Ytnikcccobfcndaa.Pure
open Go.RowKit Go.Proofs.Ytnikcccobfcndaa.PGenSeeds Go.Proofs.YtnikcccobfcndaaW.PrintWords Go.Proofs.YtnikcccobfcndaaW.PrintLast
theorem xc {p q c : Bool} (h : (p ^^ c) = (q ^^ c)) : p = q := by cases p <;> cases q <;> cases c <;> simp_all
theorem inj_shl (k : Nat) (hk : 0 < k) (x y : Nat) (h : x ^^^ (x * 2 ^ k % 2 ^ 64) = y ^^^ (y * 2 ^ k % 2 ^ 64)) : x = y := by
  apply Nat.eq_of_testBit_eq
  intro i
  induction i using Nat.strongRecOn with
  | _ i ih =>
    have hb := congrArg (fun z => z.testBit i) h
    simp only [Nat.testBit_xor, Nat.testBit_mod_two_pow, Nat.testBit_mul_two_pow] at hb
    by_cases hi : k ≤ i
    · rw [ih (i - k) (by omega)] at hb
      exact xc hb
    · simp [hi] at hb
      exact hb
theorem inj_shr (k : Nat) (hk : 0 < k) (x y : Nat) (hx : x < 2 ^ 64) (hy : y < 2 ^ 64) (h : x ^^^ (x / 2 ^ k) = y ^^^ (y / 2 ^ k)) : x = y := by
  apply Nat.eq_of_testBit_eq
  have key : ∀ m i, 64 - i ≤ m → x.testBit i = y.testBit i := by
    intro m
    induction m with
    | zero =>
      intro i hi
      have h64 : 2 ^ 64 ≤ 2 ^ i := Nat.pow_le_pow_right (by decide) (by omega)
      rw [Nat.testBit_lt_two_pow (Nat.lt_of_lt_of_le hx h64), Nat.testBit_lt_two_pow (Nat.lt_of_lt_of_le hy h64)]
    | succ m ih =>
      intro i hi
      by_cases h64 : 64 ≤ i
      · exact ih i (by omega)
      · have hb := congrArg (fun z => z.testBit i) h
        simp only [Nat.testBit_xor, Nat.testBit_div_two_pow] at hb
        rw [ih (i + k) (by omega)] at hb
        exact xc hb
  exact fun i => key 64 i (by omega)
/-- The step, on natural numbers. -/
def N (a : Nat) : Nat :=
  let x := a ^^^ (a * 2 ^ 13 % 2 ^ 64)
  let y := x ^^^ (x / 2 ^ 7)
  y ^^^ (y * 2 ^ 17 % 2 ^ 64)
theorem x_lt {a : Nat} (h : a < 2 ^ 64) (k : Nat) : a ^^^ (a * 2 ^ k % 2 ^ 64) < 2 ^ 64 := Nat.xor_lt_two_pow h (Nat.mod_lt _ (by decide))
theorem y_lt {a : Nat} (h : a < 2 ^ 64) (k : Nat) : a ^^^ (a / 2 ^ k) < 2 ^ 64 := Nat.xor_lt_two_pow h (Nat.lt_of_le_of_lt (Nat.div_le_self _ _) h)
theorem N_inj {a b : Nat} (ha : a < 2 ^ 64) (hb : b < 2 ^ 64) (h : N a = N b) : a = b :=
  inj_shl 13 (by decide) a b (inj_shr 7 (by decide) _ _ (x_lt ha 13) (x_lt hb 13) (inj_shl 17 (by decide) _ _ h))
theorem N_zero : N 0 = 0 := by decide
theorem wrap_mul (a c : Nat) : IntKind.u64.wrap ((a : Int) * (c : Int)) = ((a * c % 2 ^ 64 : Nat) : Int) := by
  rw [IntKind.wrap_u64, ← Int.natCast_mul]
  omega
theorem next_eq (a : Nat) (h0 : 1 ≤ a) (h : a < 2 ^ 64) : gen_Next.f (a : Int) = some ((N a : Nat) : Int) := by
  unfold gen_Next.f
  have hm : mx (a : Int) 1 = (a : Int) := by unfold mx; rw [if_neg (by omega)]
  rw [hm]
  have h1 : IntKind.u64.wrap ((a : Int) * 8192) = ((a * 2 ^ 13 % 2 ^ 64 : Nat) : Int) := wrap_mul a 8192
  rw [h1, bits_xor_u64_nat _ _ h (Nat.mod_lt _ (by decide))]
  have hx := x_lt h 13
  have h2 : bits .xor .u64 ((a ^^^ (a * 2 ^ 13 % 2 ^ 64) : Nat) : Int) (((a ^^^ (a * 2 ^ 13 % 2 ^ 64) : Nat) : Int) / 128) = (((a ^^^ (a * 2 ^ 13 % 2 ^ 64)) ^^^ (a ^^^ (a * 2 ^ 13 % 2 ^ 64)) / 2 ^ 7 : Nat) : Int) := xorShift_u64 _ 128 hx
  rw [h2]
  have hy := y_lt hx 7
  have h3 : IntKind.u64.wrap ((((a ^^^ (a * 2 ^ 13 % 2 ^ 64)) ^^^ (a ^^^ (a * 2 ^ 13 % 2 ^ 64)) / 2 ^ 7 : Nat) : Int) * 131072) = ((((a ^^^ (a * 2 ^ 13 % 2 ^ 64)) ^^^ (a ^^^ (a * 2 ^ 13 % 2 ^ 64)) / 2 ^ 7) * 2 ^ 17 % 2 ^ 64 : Nat) : Int) := wrap_mul _ 131072
  rw [h3, bits_xor_u64_nat _ _ hy (Nat.mod_lt _ (by decide))]
  rfl
end Go.Proofs.Ytnikcccobfcndaa.Pure
