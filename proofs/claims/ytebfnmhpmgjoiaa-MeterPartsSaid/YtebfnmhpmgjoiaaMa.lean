/- the meter: Few, Rank, box. -/
import Derived.Test.YtebfnmhpmgjoiaaTf
import Derived.Laws.MakeOwn
import Derived.ScopeJumps
namespace Go.Proofs.Ytebfnmhpmgjoiaa.Fl
open Go.RowKit FT SM
set_option linter.unusedVariables false
set_option linter.unusedSimpArgs false
theorem few3_calls (A : Option Addr) (n c : Nat) (b : Bool) (w : World) (h : decide ((n : Int) ≤ 40) = b) : Calls Try.prog 28 #[.slice A n c] w fun e w' => e = .returned (.bool b) ∧ w = w' := by
  have H := hid h
  clear h
  go_enter Try.func28, Try.ntmps28
  go_wp2
  go_ret
  exact ⟨L.ret_bool H.out, rfl⟩
/-- The floats l lie behind A. -/
structure Vw (w : World) (A : Option Addr) (l : List Nat) : Prop where
  at' : ∀ ad, A = some ad → At w ad l
  nil : A = none → l = []
theorem Vw.below {w w' : World} {A : Option Addr} {l : List Nat} (h : Vw w A l) (hb : Below w.heap.size w w') : Vw w' A l := ⟨fun ad ha => (h.at' ad ha).below hb, h.nil⟩
theorem countP_step (p : Nat → Bool) (l : List Nat) (i x : Nat) (h : l[i]? = some x) : (l.take (i + 1)).countP p = (l.take i).countP p + (if p x = true then 1 else 0) := by
  rw [List.take_add_one, h, List.countP_append]
  simp [List.countP_cons]
def rank (l : List Nat) (x : Nat) : Nat := l.countP (fun y => less y x)
set_option maxHeartbeats 4000000 in
theorem rank_calls (A : Option Addr) (l : List Nat) (c x : Nat) (w : World) (hv : Vw w A l) (hl : l.length ≤ 1000000) : Calls Try.prog 30 #[.slice A l.length c, .float .f64 x] w fun e w' => e = .returned (.int .i64 ((rank l x : Nat) : Int)) ∧ w = w' := by
  obtain ⟨n, hn⟩ : ∃ n, l.length = n := ⟨_, rfl⟩
  have HN := hid (show l.length = n ∧ n ≤ 1000000 from ⟨hn, by omega⟩)
  have HV := hid hv
  rw [hn]
  clear hv hl hn
  go_enter Try.func30, Try.ntmps30
  go_wp2
  go_loopg [5, 10] (n + 1) (fun kq v5 v10 w' => ∃ (i r : Nat), v5 = .int .i64 (r : Int) ∧ v10 = .int .i64 (i : Int) ∧ Hid (i + kq = n + 1 ∧ i ≤ n ∧ r ≤ i ∧ r = (l.take i).countP (fun y => less y x)) ∧ Hid (w = w'))
  case atStart => exact ⟨0, 0, rfl, rfl, hid ⟨by omega, by omega, by omega, rfl⟩, hid rfl⟩
  case round =>
    obtain ⟨i, r, rfl, rfl, HK, HW⟩ := hrel
    obtain rfl := HW.out
    cases gk with
    | zero => exact absurd HK.out.1 (by have := HK.out; omega)
    | succ k1 =>
      obtain ⟨II, hII⟩ : ∃ II : Int, (i : Int) = II := ⟨_, rfl⟩
      rw [hII]
      obtain ⟨RI, hRI⟩ : ∃ RI : Int, (r : Int) = RI := ⟨_, rfl⟩
      rw [hRI]
      by_cases ci : i < n
      · have b1 : decide (II < (n : Int)) = true := decide_eq_true (by omega)
        obtain ⟨y, hy⟩ : ∃ y, l[i]? = some y := ⟨_, List.getElem?_eq_getElem (by have := HN.out; omega)⟩
        cases A with
        | none => exact absurd (HV.out.nil rfl) (by rintro rfl; cases hy)
        | some ad =>
          have c1 := HV.out.at' ad rfl i y hy
          have t1 : II.toNat = i := by omega
          have p1 : 0 ≤ II := by omega
          have p2 : II < (n : Int) := by omega
          have HCI : Hid (i + 1 ≤ n) := hid ci
          have HCT := hid (countP_step (fun y => less y x) l i y hy)
          have HW1 : Hid (wrap64 (II + 1) = ((i + 1 : Nat) : Int)) := hid (by have := HN.out; rw [wrap_small _ (by omega) (by omega)]; omega)
          have HW2 : Hid (wrap64 (RI + 1) = ((r + 1 : Nat) : Int)) := hid (by have := HN.out; have := HK.out; rw [wrap_small _ (by omega) (by omega)]; omega)
          have HRI := hid hRI
          clear hy hII hRI ci
          cases hc : less y x with
          | false =>
            have HC := hid hc
            clear hc
            go_wp2_with (first | (go_at_call 11; with_reducible refine (less_calls y x _ _ HC.out).mono ?_; rintro e w1 ⟨rfl, rfl⟩))
            go_roundg k1
            case measure => omega
            case rel => exact ⟨i + 1, r, congrArg (Value.int .i64) HRI.out.symm, congrArg (Value.int .i64) HW1.out, hid ⟨by have := HK.out; omega, HCI.out, by have := HK.out; omega, by rw [HCT.out, HC.out]; exact HK.out.2.2.2⟩, hid rfl⟩
          | true =>
            have HC := hid hc
            clear hc
            go_wp2_with (first | (go_at_call 11; with_reducible refine (less_calls y x _ _ HC.out).mono ?_; rintro e w1 ⟨rfl, rfl⟩))
            go_roundg k1
            case measure => omega
            case rel => exact ⟨i + 1, r + 1, congrArg (Value.int .i64) HW2.out, congrArg (Value.int .i64) HW1.out, hid ⟨by have := HK.out; omega, HCI.out, by have := HK.out; omega, by rw [HCT.out, HC.out]; simp only [if_true]; exact congrArg (· + 1) HK.out.2.2.2⟩, hid rfl⟩
      · have b1 : decide (II < (n : Int)) = false := decide_eq_false (by omega)
        have HE : Hid (RI = ((rank l x : Nat) : Int)) := hid (by
          rw [← hRI, HK.out.2.2.2, List.take_of_length_le (by have := HN.out; have := HK.out; omega)]; rfl)
        clear hII hRI ci
        go_wp2
        go_ret
        exact ⟨by rw [HE.out]; rfl, rfl⟩
/-- The box of x: the first of the edges that is above it. -/
def bx (M : List Nat) (x : Nat) : Nat := M.findIdx (fun e => less x e)
theorem bx_at {M : List Nat} {x i : Nat} (h1 : ∀ j y, j < i → M[j]? = some y → less x y = false) (h2 : i = M.length ∨ ∃ y, M[i]? = some y ∧ less x y = true) : bx M x = i := by
  unfold bx
  rcases h2 with rfl | ⟨y, hy, hl⟩
  · rw [List.findIdx_eq_length]
    intro y hy
    obtain ⟨j, hj, rfl⟩ := List.mem_iff_getElem.1 hy
    rw [h1 j _ hj (List.getElem?_eq_getElem hj)]
  · obtain ⟨hi, he⟩ := List.getElem?_eq_some_iff.1 hy
    rw [List.findIdx_eq hi]
    refine ⟨by rw [he]; exact hl, fun j hj => ?_⟩
    exact h1 j _ hj (List.getElem?_eq_getElem (by omega))
theorem bx_le (M : List Nat) (x : Nat) : bx M x ≤ M.length := List.findIdx_le_length
theorem scope1 {P : Program} {a : Act} {w : World} {Q : Exit → Act → World → Prop} {c R : Code} (l : Nat) (J : Act → World → Prop) (μ : Act → World → Nat) (hf : findLabel c l = some (Code.seq Code.skip R))
    (pass : ∀ a w, J a w → R.wp P (Exit.jump l (fun a' w' => J a' w' ∧ μ a' w' < μ a w) Q) a w)
    (first : (∀ a w, J a w → R.wp P (Exit.jump l J Q) a w) → c.wp P (Exit.jump l J Q) a w) : (Code.scope c).wp P Q a w :=
  wp_scope_jumps l J μ hf (first fun a w h => wp_mono (pass a w h) (by
    intro e a' w' hq
    cases e <;> first | exact hq | exact ⟨hq.1, hq.2.1⟩)) (fun a w h => wp_seq (wp_skip (pass a w h)))
def BJ (w : World) (A : Option Addr) (M : List Nat) (c x : Nat) (a' : Act) (w' : World) : Prop :=
  ∃ (i : Nat) (u2 u3 u6 u7 u8 u9 u10 u11 u12 u13 u14 u15 u16 u17 u18 u19 u20 u21 : Value), a' = { tmps := #[.slice A M.length c, .float .f64 x, u2, u3, .int .i64 0, .int .i64 (i : Int), u6, u7, u8, u9, u10, u11, u12, u13, u14, u15, u16, u17, u18, u19, u20, u21], defers := [] } ∧ Hid (i ≤ M.length ∧ ∀ j y, j < i → M[j]? = some y → less x y = false) ∧ Hid (w = w')
set_option maxHeartbeats 4000000 in
theorem box_calls (A : Option Addr) (M : List Nat) (c x : Nat) (w : World) (hv : Vw w A M) (hl : M.length ≤ 1000000) : Calls Try.prog 44 #[.slice A M.length c, .float .f64 x] w fun e w' => e = .returned (.int .i64 ((bx M x : Nat) : Int)) ∧ w = w' := by
  have HN := hid hl
  have HV := hid hv
  clear hv hl
  go_enter Try.func44, Try.ntmps44
  go_wp2
  refine scope1 0 (BJ w A M c x) (fun a' _ => M.length - (intOf (a'.tmps.getD 5 undef)).toNat) rfl ?_ ?_
  · rintro a w' ⟨i, u2, u3, u6, u7, u8, u9, u10, u11, u12, u13, u14, u15, u16, u17, u18, u19, u20, u21, rfl, HK, HW⟩
    obtain rfl := HW.out
    by_cases ci : i < M.length
    · have b1 : decide ((i : Int) < (M.length : Int)) = true := decide_eq_true (by omega)
      obtain ⟨y, hy⟩ : ∃ y, M[i]? = some y := ⟨_, List.getElem?_eq_getElem ci⟩
      cases A with
      | none => exact absurd (HV.out.nil rfl) (by rintro rfl; cases hy)
      | some ad =>
        have c1 := HV.out.at' ad rfl i y hy
        have p2 : (i : Int) < (M.length : Int) := by omega
        have p1 : (0 : Int) ≤ (i : Int) := Int.natCast_nonneg i
        have HY := hid hy
        have HCI := hid ci
        have hw1 : wrap64 ((i : Int) + 1) = ((i + 1 : Nat) : Int) := by have := HN.out; rw [wrap_small _ (by omega) (by omega)]; rfl
        have HW1 := hid hw1
        clear hy ci hw1
        cases hc : less x y with
        | false =>
          have HC := hid hc
          clear hc
          go_wp2_with (first | (go_at_call 11; with_reducible refine (less_calls x y _ _ HC.out).mono ?_; rintro e w1 ⟨rfl, rfl⟩))
          go_step3
          rw [HW1.out]
          refine ⟨rfl, ⟨i + 1, _, _, _, _, _, _, _, _, _, _, _, _, _, _, _, _, _, _, rfl, hid ⟨HCI.out, fun j z hj hz => ?_⟩, hid rfl⟩, ?_⟩
          · rcases Nat.lt_or_ge j i with h | h
            · exact HK.out.2 j z h hz
            · obtain rfl : j = i := by omega
              rw [HY.out] at hz
              obtain rfl := Option.some.inj hz
              exact HC.out
          · have := HCI.out
            simp [intOf]; omega
        | true =>
          have HC := hid hc
          have HB := hid (bx_at HK.out.2 (Or.inr ⟨y, HY.out, hc⟩))
          clear hc
          go_wp2_with (first | (go_at_call 11; with_reducible refine (less_calls x y _ _ HC.out).mono ?_; rintro e w1 ⟨rfl, rfl⟩))
          simp only [Exit.jump]
          go_ret
          exact ⟨by rw [HB.out]; rfl, rfl⟩
    · have b1 : decide ((i : Int) < (M.length : Int)) = false := decide_eq_false (by omega)
      have b2 : decide (i < M.length) = false := decide_eq_false ci
      have HB : Hid (bx M x = i) := hid (bx_at HK.out.2 (Or.inl (by have := HK.out; omega)))
      clear ci
      go_wp2
      try simp only [Exit.jump]
      go_ret
      exact ⟨by rw [HB.out]; rfl, rfl⟩
  · intro h
    go_wp2
    go_step3
    rename_i hK
    refine hK _ _ ?_
    refine h _ _ ⟨0, _, _, _, _, _, _, _, _, _, _, _, _, _, _, _, _, _, _, rfl, hid ⟨by omega, fun j y hj => by omega⟩, hid rfl⟩
end Go.Proofs.Ytebfnmhpmgjoiaa.Fl
