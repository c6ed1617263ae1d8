/- Words: Unpack and awake, in the printer's form. -/
import Derived.Test.YtlojhiacaleokaaPu
import Derived.Test.YtlojhiacaleokaaAw
namespace Go.Proofs.Ytlojhiacaleokaa.PWD
open Go.RowKit Go.Proofs.YtlojhiacaleokaaW.PrintWords Go.Proofs.YtlojhiacaleokaaW.PrintLast Go.Proofs.YtlojhiacaleokaaW.PrintMore
set_option linter.unusedVariables false
def words_Unpack.f (k : Nat) (l0 : List Int) (a1 : Int) : Option (List Int × Bool) :=
  if a1 < 0 then some ([], false) else (words_Need.f a1).bind fun m => if m = (l0.length : Int) then (if a1 ≤ 500 then
    (words_Pack.f k (outs l0 a1.toNat a1.toNat)).bind fun P => (slices_Equal_uint64_uint64.f k P l0).bind fun b => some (if b = true then outs l0 a1.toNat a1.toNat else [], b) else none) else some ([], false)
theorem words_Unpack.mono : ∀ a0 a1 k, LeO (words_Unpack.f k a0 a1) (words_Unpack.f (k + 1) a0 a1) := by
  intro a0 a1 k
  unfold words_Unpack.f
  refine LeO.ite (LeO.refl _) ?_
  refine LeO.bind (LeO.refl _) (fun m => ?_)
  refine LeO.ite (LeO.ite ?_ (LeO.refl _)) (LeO.refl _)
  exact LeO.bind (words_Pack.mono _ _) fun P => LeO.bind (slices_Equal_uint64_uint64.mono _ _ _) fun b => LeO.refl _
theorem need_le {n : Nat} {m : Nat} (hn : n ≤ 500) (h : words_Need.f (n : Int) = some (m : Int)) : n ≤ 8 * m := by
  unfold words_Need.f at h
  by_cases c : (n : Int) < 1
  · omega
  · rw [if_neg c] at h
    have h2 := Option.some.inj h
    have e1 : wrap64 ((n : Int) - 1) = n - 1 := wrap64_in (by omega) (by omega)
    rw [e1, Int.tdiv_eq_ediv_of_nonneg (by omega)] at h2
    have e2 : wrap64 (((n : Int) - 1) / 8) = ((n : Int) - 1) / 8 := wrap64_in (by omega) (by omega)
    rw [e2, wrap64_in (by omega) (by omega)] at h2
    omega
theorem words_Unpack.calls (k : Nat) (A0 : Option Addr) (c0 : Nat) (l0 : List Int) (a1 : Int) (r1 : List Int) (r2 : Bool) (w : World) (hr0 : Kd.C (Kd.int .u64) w A0 l0.length l0) (hc0 : l0.length ≤ c0) (h : words_Unpack.f k l0 a1 = some (r1, r2)) :
    Calls Try.prog 7 #[.slice A0 l0.length c0, .int .i64 a1] w fun e w' => ∃ v0_ : Value, e = .returned (.tuple #[v0_, .bool r2]) ∧ Kd.R (Kd.int .u8) 5 w' w.heap.size (fun _ => True) v0_ r1 ∧ Below w.heap.size w w' := by
  unfold words_Unpack.f at h
  have hd : ∃ m, words_Need.f a1 = some m := by unfold words_Need.f; split <;> exact ⟨_, rfl⟩
  obtain ⟨m, hm⟩ := hd
  by_cases c : a1 < 0
  · rw [if_pos c] at h
    cases h
    exact unpack_none A0 c0 l0 a1 m w hm (Or.inl c)
  · rw [if_neg c, hm, Option.bind_some] at h
    by_cases c2 : m = (l0.length : Int)
    · rw [if_pos c2] at h
      by_cases c3 : a1 ≤ 500
      · rw [if_pos c3] at h
        obtain ⟨P, hP, h⟩ := Option.bind_eq_some_iff.mp h
        obtain ⟨b, hE, h⟩ := Option.bind_eq_some_iff.mp h
        obtain ⟨rfl, rfl⟩ := Prod.mk.inj (Option.some.inj h)
        subst c2
        obtain ⟨n, rfl⟩ := Int.eq_ofNat_of_zero_le (Int.not_lt.mp c)
        rw [Int.toNat_natCast] at hP ⊢
        exact unpack_calls A0 c0 l0 n w hr0 hc0 k P b (by omega) (need_le (by omega) hm) hm hP hE
      · rw [if_neg c3] at h; cases h
    · rw [if_neg c2] at h
      cases h
      exact unpack_none A0 c0 l0 a1 m w hm (Or.inr c2)
def sumplaw05_awake.f : Option Bool := some true
theorem sumplaw05_awake.calls (r : Bool) (w : World) (h : sumplaw05_awake.f = some r) : Calls Try.prog 6 #[] w fun e w' => e = .returned (.bool r) ∧ Below w.heap.size w w' := by
  cases h
  exact awake_calls w
end Go.Proofs.Ytlojhiacaleokaa.PWD
