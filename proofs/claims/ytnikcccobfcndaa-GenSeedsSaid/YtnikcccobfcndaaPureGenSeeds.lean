/- The pure law of GenSeeds: xorshift is injective. -/
import Derived.Test.YtnikcccobfcndaaPGenSeedsx1
import Derived.Test.YtnikcccobfcndaaQ
import Derived.Test.YtnikcccobfcndaaGn
namespace Go.Proofs.Ytnikcccobfcndaa.Pure
open Go.RowKit Go.Proofs.Ytnikcccobfcndaa.PGenSeeds Go.Proofs.YtnikcccobfcndaaW.PrintWords Go.Proofs.YtnikcccobfcndaaW.PrintLast
theorem j_one (x0 x1 : Int) (x12 : Bool) : sumplaw40_GenSeeds.j0 1 x0 x1 x12 = if x12 = true then ((gen_Next.f 0).bind fun t119 => ((gen_Next.f 1).bind fun t120 => (some (t119 == t120)))) else ((gen_Next.f x0).bind fun t121 => ((gen_Next.f x1).bind fun t122 => (if ((t121 == t122) == (x0 == x1)) = true then ((gen_Next.f x0).bind fun t123 => (some (t123 != 0))) else (some false)))) := rfl
theorem GenSeeds : sumplaw40_GenSeeds.Pure := by
  intro a0 a1 w0 w1
  obtain ⟨l0, u0⟩ := Go.Proofs.Ytnikcccobfcndaa.Q.wf_u64 w0
  obtain ⟨l1, u1⟩ := Go.Proofs.Ytnikcccobfcndaa.Q.wf_u64 w1
  refine ⟨1, ?_⟩
  unfold sumplaw40_GenSeeds.f sumplaw40_awake.f
  rw [Option.bind_some, if_pos rfl]
  have h0 : gen_Next.f 0 = some 1082269761 := by decide
  have h1 : gen_Next.f 1 = some 1082269761 := by decide
  by_cases c0 : a0 = 0
  · rw [if_pos c0]
    rw [j_one]
    rw [if_pos rfl, h0, h1]
    rfl
  · rw [if_neg c0]
    rw [j_one]
    by_cases c1 : a1 = 0
    · rw [if_pos (by simp [c1]), h0, h1]
      rfl
    · rw [if_neg (by simp [c1])]
      obtain ⟨m, rfl⟩ := Int.eq_ofNat_of_zero_le l0
      obtain ⟨n, rfl⟩ := Int.eq_ofNat_of_zero_le l1
      have hm : m < 2 ^ 64 := by omega
      have hn : n < 2 ^ 64 := by omega
      rw [next_eq m (by omega) hm, next_eq n (by omega) hn, Option.bind_some, Option.bind_some]
      have e1 : (((N m : Nat) : Int) == ((N n : Nat) : Int)) = ((m : Int) == (n : Int)) := by
        rw [Bool.eq_iff_iff, beq_iff_eq, beq_iff_eq]
        constructor
        · intro h; exact congrArg _ (N_inj hm hn (Int.ofNat.inj h))
        · intro h; rw [Int.ofNat.inj h]
      have e2 : N m ≠ 0 := fun h => c0 (by rw [N_inj hm (by decide) (h.trans N_zero.symm)]; rfl)
      rw [e1, if_pos (by simp), Option.bind_some]
      exact congrArg some (by simp; omega)
end Go.Proofs.Ytnikcccobfcndaa.Pure
