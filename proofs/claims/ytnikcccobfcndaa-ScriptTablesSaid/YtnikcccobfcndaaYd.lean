/- scripts: rows of rows, policies that are the same. -/
import Derived.Test.YtnikcccobfcndaaYc
import Derived.Laws.Rows
import Derived.Laws.Tables
import Derived.Deep.RegionWith
import Derived.Deep.RegionHeld3
import Derived.BigQuiet
namespace Go.Proofs.Ytnikcccobfcndaa.Sc
open Go.RowKit Go.Proofs.YtnikcccobfcndaaW.PrintWords Go.Proofs.YtnikcccobfcndaaW.PrintLast Go.Proofs.YtnikcccobfcndaaW.PrintMore
set_option linter.unusedVariables false
set_option linter.unusedSimpArgs false
set_option maxHeartbeats 4000000 in
theorem same1_calls (A B : Option Addr) (l k : List S42) (ca cb : Nat) (w : World) (hA : Kd.C k42 w A l.length l) (hB : Kd.C k42 w B k.length k) (hl : l.length ≤ 9223372036854775807) : Calls Try.prog 34 #[.slice A l.length ca, .slice B k.length cb] w fun e w' => e = .returned (.bool (eqs c42 l k)) ∧ Below w.heap.size w w' := by
  have HE := hid (eqf35_calls A B l k ca cb w hA hB hl)
  obtain ⟨r, hr⟩ : ∃ r, eqs c42 l k = r := ⟨_, rfl⟩
  obtain ⟨n, hn⟩ : ∃ n, l.length = n := ⟨_, rfl⟩
  obtain ⟨m, hm⟩ : ∃ m, k.length = m := ⟨_, rfl⟩
  rw [hr, hn, hm] at HE
  rw [hr, hn, hm]
  clear hA hB hl hr hn hm
  go_enter Try.func34, Try.ntmps34
  go_wp2_with (first | (go_at_call 35; (with_reducible refine HE.out.mono ?_); rintro e w3 ⟨rfl, h3⟩; have H3 := hid h3; clear h3))
  go_ret
  exact ⟨rfl, H3.out⟩
set_option maxHeartbeats 4000000 in
theorem eqf33_calls (A B : Option Addr) (l k : List (List S42)) (ca cb : Nat) (w : World) (hA : Kd.C (Kd.slice 42 k42) w A l.length l) (hB : Kd.C (Kd.slice 42 k42) w B k.length k) (hl : l.length ≤ 9223372036854775807) (hlb : ∀ x ∈ l, x.length ≤ 9223372036854775807) : Calls Try.prog 33 #[.slice A l.length ca, .slice B k.length cb, .func (.func 34) #[] #[]] w fun e w' => e = .returned (.bool (eqs (eqs c42) l k)) ∧ Below w.heap.size w w' := by
  by_cases hne : l.length = k.length
  · obtain ⟨n, hn⟩ : ∃ n, l.length = n := ⟨_, rfl⟩
    have hk : k.length = n := hne ▸ hn
    have HN := hid (show l.length = n ∧ k.length = n ∧ n ≤ 9223372036854775807 from ⟨hn, hk, hn ▸ hl⟩)
    have HLB := hid hlb
    have HA := hid hA
    have HB := hid hB
    rw [hn, hk]
    clear hA hB hl hn hk hne hlb
    go_enter Try.func33, Try.ntmps33
    go_wp2
    go_loopg [17] (n + 1) (fun kq v17 w' => ∃ i : Nat, v17 = .int .i64 (i : Int) ∧ Hid (i + kq = n + 1 ∧ i ≤ n) ∧ Hid (∀ (j : Nat) (x y : List S42), j < i → l[j]? = some x → k[j]? = some y → eqs c42 x y = true) ∧ Hid (Below w.heap.size w w'))
    case atStart => exact ⟨0, rfl, hid ⟨by omega, by omega⟩, hid (fun j x y hj => by omega), hid (Below.refl _ _)⟩
    case round =>
      obtain ⟨i, rfl, HK, HE, HW⟩ := hrel
      cases gk with
      | zero => exact absurd HK.out.1 (by have := HK.out; omega)
      | succ k1 =>
        obtain ⟨II, hII⟩ : ∃ II : Int, (i : Int) = II := ⟨_, rfl⟩
        rw [hII]
        by_cases ci : i < n
        · have b1 : decide (II < (n : Int)) = true := decide_eq_true (by omega)
          obtain ⟨x, hx⟩ : ∃ x, l[i]? = some x := ⟨_, List.getElem?_eq_getElem (by have := HN.out; omega)⟩
          obtain ⟨y, hy⟩ : ∃ y, k[i]? = some y := ⟨_, List.getElem?_eq_getElem (by have := HN.out; omega)⟩
          obtain ⟨ad, Ai, xi, rfl, c1, l1, K1⟩ := elemL (Kd.C_below HA.out HW.out) i x hx
          obtain ⟨bd, Bi, yi, rfl, c2, l2, K2⟩ := elemL (Kd.C_below HB.out HW.out) i y hy
          have t1 : II.toNat = i := by omega
          have p1 : 0 ≤ II := by omega
          have p2 : II < (n : Int) := by omega
          have HCI : Hid (i + 1 ≤ n) := hid ci
          have HW1 : Hid (wrap64 (II + 1) = ((i + 1 : Nat) : Int)) := hid (by have := HN.out; rw [wrap_small _ (by omega) (by omega)]; omega)
          have HXY := hid (And.intro hx hy)
          have HCL := hid (same1_calls Ai Bi x y xi yi wr K1 K2 (HLB.out x (List.mem_of_getElem? hx)))
          obtain ⟨xn, hxn⟩ : ∃ xn, x.length = xn := ⟨_, rfl⟩
          obtain ⟨yn, hyn⟩ : ∃ yn, y.length = yn := ⟨_, rfl⟩
          rw [hxn] at c1 HCL
          rw [hyn] at c2 HCL
          clear hx hy hII ci l1 l2 K1 K2 hxn hyn
          cases hc : eqs c42 x y with
          | false =>
            have HC := hid (eqs_bad (c := eqs c42) i x y HXY.out.1 HXY.out.2 hc)
            rw [hc] at HCL
            clear hc
            go_wp2_with (first | (go_at_call 34; (with_reducible refine HCL.out.mono ?_); rintro e w3 ⟨rfl, h3⟩; have H3 := hid h3; clear h3))
            go_ret
            exact ⟨by rw [HC.out]; rfl, L.bel HW.out H3.out⟩
          | true =>
            have HC := hid hc
            rw [hc] at HCL
            clear hc
            go_wp2_with (first | (go_at_call 34; (with_reducible refine HCL.out.mono ?_); rintro e w3 ⟨rfl, h3⟩; have H3 := hid h3; clear h3))
            go_roundg k1
            case measure => omega
            case rel => exact ⟨i + 1, congrArg (Value.int .i64) HW1.out, hid ⟨by have := HK.out; omega, HCI.out⟩, hid (fun j a b hj ha hb => by
              rcases Nat.lt_or_ge j i with h | h
              · exact HE.out j a b h ha hb
              · obtain rfl : j = i := by omega
                rw [HXY.out.1] at ha
                rw [HXY.out.2] at hb
                obtain rfl := Option.some.inj ha
                obtain rfl := Option.some.inj hb
                exact HC.out), hid (L.bel HW.out H3.out)⟩
        · have b1 : decide (II < (n : Int)) = false := decide_eq_false (by omega)
          have HC : Hid (eqs (eqs c42) l k = true) := hid (eqs_all (by have := HN.out; omega) (fun j x y hx hy => HE.out j x y (by have := (List.getElem?_eq_some_iff.1 hx).1; have := HN.out; have := HK.out; omega) hx hy))
          clear hII ci
          go_wp2
          go_ret
          exact ⟨by rw [HC.out]; rfl, HW.out⟩
  · have HE := hid (eqs_ne (c := eqs c42) hne)
    obtain ⟨n, hn⟩ : ∃ n, l.length = n := ⟨_, rfl⟩
    obtain ⟨m, hm⟩ : ∃ m, k.length = m := ⟨_, rfl⟩
    rw [hn, hm] at hne ⊢
    have b1 : ((n : Int) != (m : Int)) = true := by simp; omega
    have b2 : (n != m) = true := by simp; omega
    have b3 : ¬ n = m := hne
    clear hA hB hl hn hm hne hlb
    go_enter Try.func33, Try.ntmps33
    go_wp2
    go_ret
    exact ⟨by rw [HE.out]; rfl, Below.refl _ _⟩
set_option maxHeartbeats 4000000 in
theorem pol_calls (a0 a1 a2 d0 d1 d2 : Nat) (w : World) : Calls Try.prog 32 #[.agg #[.float .f64 a0, .float .f64 a1, .float .f64 a2], .agg #[.float .f64 d0, .float .f64 d1, .float .f64 d2]] w fun e w' => e = .returned (.bool (Fl.same a0 d0 && Fl.same a1 d1 && Fl.same a2 d2)) ∧ Below w.heap.size w w' := by
  obtain ⟨s0, h0⟩ : ∃ s, Fl.same a0 d0 = s := ⟨_, rfl⟩
  obtain ⟨s1, h1⟩ : ∃ s, Fl.same a1 d1 = s := ⟨_, rfl⟩
  obtain ⟨s2, h2⟩ : ∃ s, Fl.same a2 d2 = s := ⟨_, rfl⟩
  have C0 := hid (fun W => Fl.same_calls a0 d0 s0 W h0)
  have C1 := hid (fun W => Fl.same_calls a1 d1 s1 W h1)
  have C2 := hid (fun W => Fl.same_calls a2 d2 s2 W h2)
  have HBB : Hid (Below w.heap.size w ((w.alloc (.cells #[.float .f64 a0, .float .f64 a1, .float .f64 a2] 30)).alloc (.cells #[.float .f64 d0, .float .f64 d1, .float .f64 d2] 30))) := hid (below_alloc (below_alloc (Below.refl _ _) _) _)
  rw [h0, h1, h2]
  clear h0 h1 h2
  cases s0 <;> cases s1 <;> cases s2
  all_goals
    go_enter Try.func32, Try.ntmps32
    go_wp2_with (first
      | (go_at_call 44; (with_reducible refine (C0.out _).mono ?_); rintro e w3 ⟨rfl, rfl⟩)
      | (go_at_call 44; (with_reducible refine (C1.out _).mono ?_); rintro e w3 ⟨rfl, rfl⟩)
      | (go_at_call 44; (with_reducible refine (C2.out _).mono ?_); rintro e w3 ⟨rfl, rfl⟩))
    go_ret
    exact ⟨rfl, HBB.out⟩
end Go.Proofs.Ytnikcccobfcndaa.Sc
