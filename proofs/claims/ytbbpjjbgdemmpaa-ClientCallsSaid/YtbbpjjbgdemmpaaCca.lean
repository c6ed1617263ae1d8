/- ClientCalls: the walk: for any call the Go text returns true and leaves what was there as it was. -/
import Derived.Test.YtbbpjjbgdemmpaaPClientCallsx
namespace Go.Proofs.Ytbbpjjbgdemmpaa.ClientCallsW
open Go.RowKit YtbbpjjbgdemmpaaW.PrintWords PClientCalls

theorem awake_f : sumplaw30_awake.f = some true := by decide +kernel
theorem may_f : client_May.f 0 1 = some true := by decide +kernel
theorem may_f2 : client_May.f 0 2 = some true := by decide +kernel
theorem pure (a0_0 : Int) (a0_1 : Int) (a0_2 : Int) (a0_3 : Int) (a0_4 : Int) (a0_5 : ByteArray) (a0_6 : ByteArray) (l0_7 : List Int) : sumplaw30_ClientCalls.f 9 a0_0 a0_1 a0_2 a0_3 a0_4 a0_5 a0_6 l0_7 = some true := by
  by_cases h3 : a0_0 = 3
  · subst h3; simp [sumplaw30_ClientCalls.f, awake_f, sumplaw30_ClientCalls.j0, sumplaw30_ClientCalls.j1, sumplaw30_ClientCalls.j2, client_Locks.f, client_Alone.f, call_Writes.f, client_First.f, client_Steps.f, call_Fds.f, may_f]
  by_cases h4 : a0_0 = 4
  · subst h4; simp [sumplaw30_ClientCalls.f, awake_f, sumplaw30_ClientCalls.j0, sumplaw30_ClientCalls.j1, sumplaw30_ClientCalls.j2, client_Locks.f, client_Alone.f, call_Writes.f, client_First.f, client_Steps.f, call_Fds.f, may_f]
  by_cases h5 : a0_0 = 5
  · subst h5; simp [sumplaw30_ClientCalls.f, awake_f, sumplaw30_ClientCalls.j0, sumplaw30_ClientCalls.j1, sumplaw30_ClientCalls.j2, client_Locks.f, client_Alone.f, call_Writes.f, client_First.f, client_Steps.f, call_Fds.f, may_f]
  by_cases h6 : a0_0 = 6
  · subst h6; simp [sumplaw30_ClientCalls.f, awake_f, sumplaw30_ClientCalls.j0, sumplaw30_ClientCalls.j1, sumplaw30_ClientCalls.j2, client_Locks.f, client_Alone.f, call_Writes.f, client_First.f, client_Steps.f, call_Fds.f, may_f]
  by_cases h8 : a0_0 = 8
  · subst h8; simp [sumplaw30_ClientCalls.f, awake_f, sumplaw30_ClientCalls.j0, sumplaw30_ClientCalls.j1, sumplaw30_ClientCalls.j2, client_Locks.f, client_Alone.f, call_Writes.f, client_First.f, client_Steps.f, call_Fds.f, may_f]
  simp [sumplaw30_ClientCalls.f, awake_f, sumplaw30_ClientCalls.j0, sumplaw30_ClientCalls.j1, sumplaw30_ClientCalls.j2, client_Locks.f, client_Alone.f, call_Writes.f, client_First.f, client_Steps.f, may_f2, h3, h4, h5, h6, h8]
  rw [beq_eq_false_iff_ne.2 h3, beq_eq_false_iff_ne.2 h6]

def G40 (x : S40) : Prop := (Lit.int .i64 x.f0).wf = true ∧ (Lit.int .i64 x.f1).wf = true ∧ (Lit.int .i64 x.f2).wf = true ∧ (Lit.int .i64 x.f3).wf = true ∧ (Lit.int .i64 x.f4).wf = true ∧ x.f5.size ≤ maxLen ∧ x.f6.size ≤ maxLen ∧ (x.f7.length ≤ maxLen ∧ ∀ y1 ∈ x.f7, (Lit.int .u8 y1).wf = true)
theorem walk (x0 : S40) (cs0 : List Value) (w : World) (K0 : k40.K w x0 cs0) (_g0 : G40 x0) :
    Calls Try.prog 8 #[.agg cs0.toArray] w fun e w' => e = .returned (.bool true) ∧ Below w.heap.size w w' := by
  obtain ⟨A7, c7, rfl, hl, hr⟩ := k40_open K0
  exact sumplaw30_ClientCalls.calls 9 _ _ _ _ _ _ _ A7 c7 _ true w hr hl (pure _ _ _ _ _ _ _ _)
end Go.Proofs.Ytbbpjjbgdemmpaa.ClientCallsW
