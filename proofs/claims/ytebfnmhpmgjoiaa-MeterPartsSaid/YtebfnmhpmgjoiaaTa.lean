/- sorting floats: best, Min, Max. -/
import Derived.Test.YtebfnmhpmgjoiaaSi
import Derived.Test.YtebfnmhpmgjoiaaFc
import Derived.Laws.Entries
import Derived.Laws.Slices
import Derived.Laws.Rows
import Derived.Laws.AppendOwn
import Derived.Lib.AppendZeros
import Derived.WalkMore
namespace Go.Proofs.Ytebfnmhpmgjoiaa.Fl
open Go.RowKit FT SM
set_option linter.unusedVariables false
set_option linter.unusedSimpArgs false
/-- The floats l lie behind ad. -/
def At (w : World) (ad : Addr) (l : List Nat) : Prop := ∀ j x, l[j]? = some x → w.cell? (ad.add j) = some (.float .f64 x)
theorem sw_tr {α : Type} {lt : α → α → Bool} (H : SW lt) {x y z : α} (h1 : lt x y = false) (h2 : lt z y = true) : lt x z = false :=
  H.ntrans z y x (H.asymm _ _ h2) h1
def more (x y : Nat) : Bool := less y x
theorem more_SW : SW more where
  asymm _ _ h := less_asymm h
  ntrans x y z h1 h2 := less_SW.ntrans z y x h2 h1
theorem max1_calls (x y : Nat) (r : Bool) (w : World) (h : more x y = r) : Calls Try.prog 40 #[.float .f64 x, .float .f64 y] w fun e w' => e = .returned (.bool r) ∧ w = w' := by
  have h1 : less y x = r := h
  clear h
  go_enter Try.func40, Try.ntmps40
  go_wp2_with (first | (go_at_call 11; with_reducible refine (less_calls y x _ _ h1).mono ?_; rintro e w1 ⟨rfl, rfl⟩))
  go_ret
  exact ⟨rfl, rfl⟩

set_option maxHeartbeats 4000000 in
theorem best11 (ad : Addr) (l : List Nat) (c : Nat) (w : World) (hv : At w ad l) (h0 : 0 < l.length) (hl : l.length ≤ 1000000) : Calls Try.prog 39 #[.slice (some ad) l.length c, .func (.func 11) #[] #[]] w fun e w' => ∃ m, e = .returned (.tuple #[.float .f64 m, .bool true]) ∧ w' = w ∧ m ∈ l ∧ ∀ v ∈ l, less v m = false := by
  obtain ⟨n, hn⟩ : ∃ n, l.length = n := ⟨_, rfl⟩
  obtain ⟨NN, hNN⟩ : ∃ NN : Int, (n : Int) = NN := ⟨_, rfl⟩
  obtain ⟨a0, ha0⟩ : ∃ a0, l[0]? = some a0 := ⟨_, List.getElem?_eq_getElem h0⟩
  have c0 := hv 0 a0 ha0
  rw [show ad.add 0 = ad by cases ad; rfl] at c0
  have b0 : (NN == 0) = false := by rw [← hNN]; simp; omega
  have b01 : (n == 0) = false := by simp; omega
  have b02 : ((n : Int) == 0) = false := by simp; omega
  have b03 : n ≠ 0 := by omega
  have q0 : (0 : Int) < (n : Int) := by omega
  have HN := hid (show l.length = n ∧ (n : Int) = NN ∧ n ≤ 1000000 from ⟨hn, hNN, by omega⟩)
  have HV := hid hv
  have HA := hid ha0
  rw [hn]
  clear hv h0 hl hn ha0 hNN
  go_enter Try.func39, Try.ntmps39
  go_wp2
  go_step3
  go_wp2
  go_step3
  go_wp2
  go_loopg [6, 17] (n + 1) (fun kq v6 v17 w' => ∃ (i m : Nat), v6 = .float .f64 m ∧ v17 = .int .i64 (i : Int) ∧ Hid (i + kq = n + 1 ∧ i ≤ n ∧ m ∈ l ∧ ∀ j x, j < i → l[j]? = some x → less x m = false) ∧ Hid (w' = w))
  case atStart => exact ⟨0, a0, rfl, rfl, hid ⟨by omega, by omega, List.mem_of_getElem? HA.out, fun j x hj => by omega⟩, hid rfl⟩
  case round =>
    obtain ⟨i, m, rfl, rfl, HK, HW⟩ := hrel
    obtain rfl := HW.out
    cases gk with
    | zero =>
      exact absurd HK.out.1 (by have := HK.out; omega)
    | succ k1 =>
      obtain ⟨II, hII⟩ : ∃ II : Int, (i : Int) = II := ⟨_, rfl⟩
      rw [hII]
      by_cases ci : i < n
      · have b1 : decide (II < NN) = true := decide_eq_true (by have := HN.out; omega)
        obtain ⟨x, hx⟩ : ∃ x, l[i]? = some x := ⟨_, List.getElem?_eq_getElem (by have := HN.out; omega)⟩
        have ci0 := HV.out i x hx
        have t1 : II.toNat = i := by omega
        have p1 : 0 ≤ II := by omega
        have p2 : II < (n : Int) := by omega
        have HX := hid hx
        have HCI : Hid (i + 1 ≤ n) := hid ci
        have HW1 : Hid (wrap64 (II + 1) = ((i + 1 : Nat) : Int)) := hid (by have := HN.out; rw [wrap_small _ (by omega) (by omega)]; omega)
        clear hx hII ci
        cases hc : less x m with
        | false =>
          have HC := hid hc
          clear hc
          go_wp2_with (first | (go_at_call 11; with_reducible refine (less_calls x m _ _ HC.out).mono ?_; rintro e w1 ⟨rfl, rfl⟩))
          go_roundg k1
          case measure => omega
          case rel => exact ⟨i + 1, m, rfl, congrArg (Value.int .i64) HW1.out, hid ⟨by have := HK.out; omega, HCI.out, HK.out.2.2.1, fun j y hj hy => by
            rcases Nat.lt_or_ge j i with h | h
            · exact HK.out.2.2.2 j y h hy
            · obtain rfl : j = i := by omega
              rw [HX.out] at hy
              obtain rfl := Option.some.inj hy
              exact HC.out⟩, hid rfl⟩
        | true =>
          have HC := hid hc
          clear hc
          go_wp2_with (first | (go_at_call 11; with_reducible refine (less_calls x m _ _ HC.out).mono ?_; rintro e w1 ⟨rfl, rfl⟩))
          go_roundg k1
          case measure => omega
          case rel => exact ⟨i + 1, x, rfl, congrArg (Value.int .i64) HW1.out, hid ⟨by have := HK.out; omega, HCI.out, List.mem_of_getElem? HX.out, fun j y hj hy => by
            rcases Nat.lt_or_ge j i with h | h
            · exact sw_tr less_SW (HK.out.2.2.2 j y h hy) HC.out
            · obtain rfl : j = i := by omega
              rw [HX.out] at hy
              obtain rfl := Option.some.inj hy
              exact (less_SW).irr _⟩, hid rfl⟩
      · have b1 : decide (II < NN) = false := decide_eq_false (by have := HN.out; omega)
        have b11 : decide (II < (n : Int)) = false := decide_eq_false (by omega)
        have HI : Hid (n ≤ i) := hid (by omega)
        clear hII ci
        go_wp2
        exact ⟨rfl, .tuple #[.float .f64 m, .bool true], by simp [results, Try.results39], m, rfl, rfl, HK.out.2.2.1, fun v hv => by
          obtain ⟨j, hj, rfl⟩ := List.mem_iff_getElem.1 hv
          exact HK.out.2.2.2 j _ (by have := HI.out; have := HN.out; omega) (List.getElem?_eq_getElem hj)⟩
theorem best11_nil (A : Option Addr) (c : Nat) (w : World) : Calls Try.prog 39 #[.slice A 0 c, .func (.func 11) #[] #[]] w fun e w' => e = .returned (.tuple #[.float .f64 0, .bool false]) ∧ w' = w := by
  go_enter Try.func39, Try.ntmps39
  go_wp2
  go_step3
  go_wp2
  exact ⟨rfl, .tuple #[.float .f64 0, .bool false], by simp [results, Try.results39], rfl, rfl⟩
theorem min_some (ad : Addr) (l : List Nat) (c : Nat) (w : World) (hv : At w ad l) (h0 : 0 < l.length) (hl : l.length ≤ 1000000) : Calls Try.prog 23 #[.slice (some ad) l.length c] w fun e w' => ∃ m, e = .returned (.tuple #[.float .f64 m, .bool true]) ∧ w' = w ∧ m ∈ l ∧ ∀ v ∈ l, less v m = false := by
  have HB := hid (best11 ad l c w hv h0 hl)
  clear hv h0 hl
  go_enter Try.func23, Try.ntmps23
  go_wp2_with (first | (go_at_call 39; with_reducible refine HB.out.mono ?_; rintro e w1 ⟨m, rfl, rfl, h1, h2⟩; have H1 := hid h1; have H2 := hid h2; clear h1 h2))
  exact ⟨rfl, .tuple #[.float .f64 m, .bool true], by simp [results, Try.results23], m, rfl, rfl, H1.out, H2.out⟩
theorem min_nil (A : Option Addr) (c : Nat) (w : World) : Calls Try.prog 23 #[.slice A 0 c] w fun e w' => e = .returned (.tuple #[.float .f64 0, .bool false]) ∧ w' = w := by
  go_enter Try.func23, Try.ntmps23
  go_wp2_with (first | (go_at_call 39; with_reducible refine (best11_nil A c w).mono ?_; rintro e w1 ⟨rfl, rfl⟩))
  exact ⟨rfl, .tuple #[.float .f64 0, .bool false], by simp [results, Try.results23], rfl, rfl⟩

set_option maxHeartbeats 4000000 in
theorem best40 (ad : Addr) (l : List Nat) (c : Nat) (w : World) (hv : At w ad l) (h0 : 0 < l.length) (hl : l.length ≤ 1000000) : Calls Try.prog 39 #[.slice (some ad) l.length c, .func (.func 40) #[] #[]] w fun e w' => ∃ m, e = .returned (.tuple #[.float .f64 m, .bool true]) ∧ w' = w ∧ m ∈ l ∧ ∀ v ∈ l, more v m = false := by
  obtain ⟨n, hn⟩ : ∃ n, l.length = n := ⟨_, rfl⟩
  obtain ⟨NN, hNN⟩ : ∃ NN : Int, (n : Int) = NN := ⟨_, rfl⟩
  obtain ⟨a0, ha0⟩ : ∃ a0, l[0]? = some a0 := ⟨_, List.getElem?_eq_getElem h0⟩
  have c0 := hv 0 a0 ha0
  rw [show ad.add 0 = ad by cases ad; rfl] at c0
  have b0 : (NN == 0) = false := by rw [← hNN]; simp; omega
  have b01 : (n == 0) = false := by simp; omega
  have b02 : ((n : Int) == 0) = false := by simp; omega
  have b03 : n ≠ 0 := by omega
  have q0 : (0 : Int) < (n : Int) := by omega
  have HN := hid (show l.length = n ∧ (n : Int) = NN ∧ n ≤ 1000000 from ⟨hn, hNN, by omega⟩)
  have HV := hid hv
  have HA := hid ha0
  rw [hn]
  clear hv h0 hl hn ha0 hNN
  go_enter Try.func39, Try.ntmps39
  go_wp2
  go_step3
  go_wp2
  go_step3
  go_wp2
  go_loopg [6, 17] (n + 1) (fun kq v6 v17 w' => ∃ (i m : Nat), v6 = .float .f64 m ∧ v17 = .int .i64 (i : Int) ∧ Hid (i + kq = n + 1 ∧ i ≤ n ∧ m ∈ l ∧ ∀ j x, j < i → l[j]? = some x → more x m = false) ∧ Hid (w' = w))
  case atStart => exact ⟨0, a0, rfl, rfl, hid ⟨by omega, by omega, List.mem_of_getElem? HA.out, fun j x hj => by omega⟩, hid rfl⟩
  case round =>
    obtain ⟨i, m, rfl, rfl, HK, HW⟩ := hrel
    obtain rfl := HW.out
    cases gk with
    | zero =>
      exact absurd HK.out.1 (by have := HK.out; omega)
    | succ k1 =>
      obtain ⟨II, hII⟩ : ∃ II : Int, (i : Int) = II := ⟨_, rfl⟩
      rw [hII]
      by_cases ci : i < n
      · have b1 : decide (II < NN) = true := decide_eq_true (by have := HN.out; omega)
        obtain ⟨x, hx⟩ : ∃ x, l[i]? = some x := ⟨_, List.getElem?_eq_getElem (by have := HN.out; omega)⟩
        have ci0 := HV.out i x hx
        have t1 : II.toNat = i := by omega
        have p1 : 0 ≤ II := by omega
        have p2 : II < (n : Int) := by omega
        have HX := hid hx
        have HCI : Hid (i + 1 ≤ n) := hid ci
        have HW1 : Hid (wrap64 (II + 1) = ((i + 1 : Nat) : Int)) := hid (by have := HN.out; rw [wrap_small _ (by omega) (by omega)]; omega)
        clear hx hII ci
        cases hc : more x m with
        | false =>
          have HC := hid hc
          clear hc
          go_wp2_with (first | (go_at_call 40; with_reducible refine (max1_calls x m _ _ HC.out).mono ?_; rintro e w1 ⟨rfl, rfl⟩))
          go_roundg k1
          case measure => omega
          case rel => exact ⟨i + 1, m, rfl, congrArg (Value.int .i64) HW1.out, hid ⟨by have := HK.out; omega, HCI.out, HK.out.2.2.1, fun j y hj hy => by
            rcases Nat.lt_or_ge j i with h | h
            · exact HK.out.2.2.2 j y h hy
            · obtain rfl : j = i := by omega
              rw [HX.out] at hy
              obtain rfl := Option.some.inj hy
              exact HC.out⟩, hid rfl⟩
        | true =>
          have HC := hid hc
          clear hc
          go_wp2_with (first | (go_at_call 40; with_reducible refine (max1_calls x m _ _ HC.out).mono ?_; rintro e w1 ⟨rfl, rfl⟩))
          go_roundg k1
          case measure => omega
          case rel => exact ⟨i + 1, x, rfl, congrArg (Value.int .i64) HW1.out, hid ⟨by have := HK.out; omega, HCI.out, List.mem_of_getElem? HX.out, fun j y hj hy => by
            rcases Nat.lt_or_ge j i with h | h
            · exact sw_tr more_SW (HK.out.2.2.2 j y h hy) HC.out
            · obtain rfl : j = i := by omega
              rw [HX.out] at hy
              obtain rfl := Option.some.inj hy
              exact (more_SW).irr _⟩, hid rfl⟩
      · have b1 : decide (II < NN) = false := decide_eq_false (by have := HN.out; omega)
        have b11 : decide (II < (n : Int)) = false := decide_eq_false (by omega)
        have HI : Hid (n ≤ i) := hid (by omega)
        clear hII ci
        go_wp2
        exact ⟨rfl, .tuple #[.float .f64 m, .bool true], by simp [results, Try.results39], m, rfl, rfl, HK.out.2.2.1, fun v hv => by
          obtain ⟨j, hj, rfl⟩ := List.mem_iff_getElem.1 hv
          exact HK.out.2.2.2 j _ (by have := HI.out; have := HN.out; omega) (List.getElem?_eq_getElem hj)⟩
theorem best40_nil (A : Option Addr) (c : Nat) (w : World) : Calls Try.prog 39 #[.slice A 0 c, .func (.func 40) #[] #[]] w fun e w' => e = .returned (.tuple #[.float .f64 0, .bool false]) ∧ w' = w := by
  go_enter Try.func39, Try.ntmps39
  go_wp2
  go_step3
  go_wp2
  exact ⟨rfl, .tuple #[.float .f64 0, .bool false], by simp [results, Try.results39], rfl, rfl⟩
theorem max_some (ad : Addr) (l : List Nat) (c : Nat) (w : World) (hv : At w ad l) (h0 : 0 < l.length) (hl : l.length ≤ 1000000) : Calls Try.prog 24 #[.slice (some ad) l.length c] w fun e w' => ∃ m, e = .returned (.tuple #[.float .f64 m, .bool true]) ∧ w' = w ∧ m ∈ l ∧ ∀ v ∈ l, more v m = false := by
  have HB := hid (best40 ad l c w hv h0 hl)
  clear hv h0 hl
  go_enter Try.func24, Try.ntmps24
  go_wp2_with (first | (go_at_call 39; with_reducible refine HB.out.mono ?_; rintro e w1 ⟨m, rfl, rfl, h1, h2⟩; have H1 := hid h1; have H2 := hid h2; clear h1 h2))
  exact ⟨rfl, .tuple #[.float .f64 m, .bool true], by simp [results, Try.results24], m, rfl, rfl, H1.out, H2.out⟩
theorem max_nil (A : Option Addr) (c : Nat) (w : World) : Calls Try.prog 24 #[.slice A 0 c] w fun e w' => e = .returned (.tuple #[.float .f64 0, .bool false]) ∧ w' = w := by
  go_enter Try.func24, Try.ntmps24
  go_wp2_with (first | (go_at_call 39; with_reducible refine (best40_nil A c w).mono ?_; rintro e w1 ⟨rfl, rfl⟩))
  exact ⟨rfl, .tuple #[.float .f64 0, .bool false], by simp [results, Try.results24], rfl, rfl⟩
end Go.Proofs.Ytebfnmhpmgjoiaa.Fl
