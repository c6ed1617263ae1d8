/- sorting floats: SameFloats. -/
import Derived.Test.YtebfnmhpmgjoiaaTa
import Derived.Laws.Closers25b
namespace Go.Proofs.Ytebfnmhpmgjoiaa.Fl
open Go.RowKit FT SM
set_option linter.unusedVariables false
set_option linter.unusedSimpArgs false
set_option maxHeartbeats 4000000 in
/-- Rows that are the same float by float. -/
theorem same_floats (ada adb : Addr) (a b : List Nat) (ca cb : Nat) (w : World) (ha : At w ada a) (hb : At w adb b) (hl : a.length = b.length) (hs : ∀ (j x y : Nat), a[j]? = some x → b[j]? = some y → same x y = true) (h0 : a.length ≤ 1000000) : Calls Try.prog 25 #[.slice (some ada) a.length ca, .slice (some adb) a.length cb] w fun e w' => e = .returned (.bool true) ∧ Below w.heap.size w w' := by
  obtain ⟨n, hn⟩ : ∃ n, a.length = n := ⟨_, rfl⟩
  have HN := hid (show a.length = n ∧ b.length = n ∧ n ≤ 1000000 from ⟨hn, by omega, by omega⟩)
  have HA := hid ha
  have HB := hid hb
  have HS := hid hs
  rw [hn]
  clear ha hb hl hs h0 hn
  go_enter Try.func25, Try.ntmps25
  go_wp2
  go_loopg [13] (n + 1) (fun kq v13 w' => ∃ i : Nat, v13 = .int .i64 (i : Int) ∧ Hid (i + kq = n + 1 ∧ i ≤ n) ∧ Hid (At w' ada a ∧ At w' adb b ∧ Below w.heap.size w w'))
  case atStart => exact ⟨0, rfl, hid ⟨by omega, by omega⟩, hid ⟨HA.out, HB.out, Below.refl _ _⟩⟩
  case round =>
    obtain ⟨i, rfl, HK, HW⟩ := hrel
    cases gk with
    | zero => exact absurd HK.out.1 (by have := HK.out; omega)
    | succ k1 =>
      obtain ⟨II, hII⟩ : ∃ II : Int, (i : Int) = II := ⟨_, rfl⟩
      rw [hII]
      by_cases ci : i < n
      · have b1 : decide (II < (n : Int)) = true := decide_eq_true (by omega)
        obtain ⟨x, hx⟩ : ∃ x, a[i]? = some x := ⟨_, List.getElem?_eq_getElem (by have := HN.out; omega)⟩
        obtain ⟨y, hy⟩ : ∃ y, b[i]? = some y := ⟨_, List.getElem?_eq_getElem (by have := HN.out; omega)⟩
        have c1 := HW.out.1 i x hx
        have c2 := HW.out.2.1 i y hy
        have hsm := HS.out i x y hx hy
        have HSM := hid hsm
        have t1 : II.toNat = i := by omega
        have p1 : 0 ≤ II := by omega
        have p2 : II < (n : Int) := by omega
        have HCI : Hid (i + 1 ≤ n) := hid ci
        have HW1 : Hid (wrap64 (II + 1) = ((i + 1 : Nat) : Int)) := hid (by have := HN.out; rw [wrap_small _ (by omega) (by omega)]; omega)
        have HX : Hid (∀ nn, At (wr.drewN nn) ada a ∧ At (wr.drewN nn) adb b ∧ Below w.heap.size w (wr.drewN nn)) := hid fun nn => ⟨HW.out.1, HW.out.2.1, ⟨HW.out.2.2.os, HW.out.2.2.tape, HW.out.2.2.output, HW.out.2.2.size, HW.out.2.2.block⟩⟩
        clear hx hy hsm hII ci
        go_upto_region 6 with fail
        go_quiet (first | (go_at_call 16; exact Calls.quiet_of_same ((rsame_calls x y true _ HSM.out).mono fun _ _ h => ⟨h.1, h.2.symm⟩)))
        go_wp2
        go_roundg k1
        case measure => omega
        case rel => exact ⟨i + 1, congrArg (Value.int .i64) HW1.out, hid ⟨by have := HK.out; omega, HCI.out⟩, hid (HX.out _)⟩
      · have b1 : decide (II < (n : Int)) = false := decide_eq_false (by omega)
        clear hII ci
        go_wp2
        go_ret
        exact ⟨rfl, HW.out.2.2⟩
end Go.Proofs.Ytebfnmhpmgjoiaa.Fl
