/- FloatMid: the walk. -/
import Derived.Test.YtebfnmhpmgjoiaaFd
import Derived.Below
namespace Go.Proofs.Ytebfnmhpmgjoiaa.Fl
open Go.RowKit FT Ieee
set_option linter.unusedVariables false
/-- A division or a sum of any two floats yields a float; the known one, where there is one. -/
theorem arith_any (op : BinOp) (hop : op = .quo ∨ op = .add) (t : TypeId) (x y : Nat) (W0 : World) :
    ∃ r W1, (binOp op t (.float .f64 x) (.float .f64 y)).run Try.prog W0 = .ok (.float .f64 r) W1 ∧ Below W0.heap.size W0 W1 ∧ ∀ v, floatBits op .f64 x y = some v → v = r := by
  cases h : floatBits op .f64 x y with
  | some v => exact ⟨v, W0, run_float_arith W0 op t .f64 x y v h, Below.refl _ _, fun v' e => (Option.some.inj e).symm⟩
  | none =>
    refine ⟨(Question.nanBits .f64 x y).cut (W0.tape W0.drawn (.nanBits .f64 x y)), W0.drew, ?_, (Below.refl _ _).drew, fun v e => by cases e⟩
    rcases hop with rfl | rfl
    · have h' : FloatKind.f64.format.div x y = none := h
      simp [binOp, Op.floatArith, h', Question.forced]
    · have h' : FloatKind.f64.format.add x y = none := h
      simp [binOp, Op.floatArith, h', Question.forced]
set_option maxHeartbeats 2000000 in
theorem mid_calls (x y : Nat) (w : World) : Calls Try.prog 19 #[.float .f64 x, .float .f64 y] w fun e w' => ∃ m, e = .returned (.float .f64 m) ∧ Below w.heap.size w w' ∧ ∀ v, midv x y = some v → v = m := by
  obtain ⟨a, w1, h1, b1, e1⟩ := arith_any .quo (.inl rfl) 22 x 4611686018427387904 w
  obtain ⟨b, w2, h2, b2, e2⟩ := arith_any .quo (.inl rfl) 22 y 4611686018427387904 w1
  obtain ⟨m, w3, h3, b3, e3⟩ := arith_any .add (.inr rfl) 22 a b w2
  have hm : ∀ v, midv x y = some v → v = m := by
    intro v hv
    unfold midv at hv
    obtain ⟨a', ha, hv⟩ := Option.bind_eq_some_iff.mp hv
    obtain ⟨b', hb, hv⟩ := Option.bind_eq_some_iff.mp hv
    obtain rfl := e1 _ ha
    obtain rfl := e2 _ hb
    exact e3 _ hv
  have HB := L.bel (L.bel b1 b2) b3
  clear b1 b2 b3 e1 e2 e3
  go_enter Try.func19, Try.ntmps19
  go_wp2
  go_ret
  exact ⟨m, rfl, HB, hm⟩
def E : Int := W 118622047889322841
theorem E_W : N 118622047889322841 = false ∧ N 9341994084744098649 = false ∧ W 9341994084744098649 = -E := by decide +kernel
def ex (x : Nat) : Bool := !N x && (decide (W x = 0) || decide (E < W x) || decide (W x < -E))
theorem cmp_e (x : Nat) : (FloatKind.f64.format.order x 118622047889322841 == some .gt) = (!N x && decide (E < W x)) := by rw [gt_W, E_W.1, Bool.not_false, Bool.and_true]; rfl
theorem cmp_me (x : Nat) : (FloatKind.f64.format.order x 9341994084744098649 == some .lt) = (!N x && decide (W x < -E)) := by rw [lt_W, E_W.2.1, E_W.2.2]; simp
set_option maxHeartbeats 2000000 in
theorem exact_calls (x : Nat) (r : Bool) (w : World) (h : ex x = r) : Calls Try.prog 20 #[.float .f64 x] w fun e w' => e = .returned (.bool r) ∧ w = w' := by
  subst h
  have h1 := cmp_eq0 x
  have h2 := cmp_e x
  have h3 := cmp_me x
  unfold ex
  generalize N x = n at *
  generalize decide (W x = 0) = p at *
  generalize decide (E < W x) = q at *
  generalize decide (W x < -E) = s at *
  cases n <;> cases p <;> cases q
  all_goals
    go_enter Try.func20, Try.ntmps20
    go_wp2
    go_ret
    exact ⟨L.ret_bool (by simp), rfl⟩
theorem E_u : E = (u 118622047889322841 : Int) := by decide +kernel
/-- What is exact has an exact half. -/
theorem ex_far {x : Nat} (hx : R x < inf') (h : ex x = true) : far x := by
  obtain ⟨hn, hw⟩ := W_fin hx
  unfold ex at h
  rw [hn] at h
  simp only [Bool.not_false, Bool.true_and, Bool.or_eq_true, decide_eq_true_eq] at h
  rw [E_u, hw] at h
  unfold far
  rcases Nat.lt_or_ge (R x) 118622047889322842 with h1 | h1
  · have h2 : u (R x) ≤ u 118622047889322841 := u_le_iff.2 (by omega)
    have h3 : u (R x) ≤ u 0 := by
      rw [show u 0 = 0 from rfl]
      unfold sg at h
      split at h <;> omega
    have := u_le_iff.1 h3
    exact .inl (by omega)
  · exact .inr (by omega)
theorem cls_fin (x : Nat) : (2 ≤ cls x ∧ cls x ≤ 5) ↔ R x < inf' := by
  constructor
  · intro h
    by_cases k : R x < inf'
    · exact k
    · exfalso
      cases hn : N x with
      | true => rw [(kn x).1 hn] at h; omega
      | false =>
        have hw := other_W k hn
        have h1 := G_big
        have h2 := G_pos
        unfold cls at h
        rw [if_neg (by rw [hn]; decide)] at h
        cases hs : S x with
        | true => rw [hs, if_pos rfl] at hw; rw [if_pos (by omega)] at h; omega
        | false => rw [hs, if_neg (by decide)] at hw; rw [if_neg (by omega), if_pos (by omega)] at h; omega
  · intro h
    have hg := fin_G h
    have hn := (W_fin h).1
    unfold cls
    rw [if_neg (by rw [hn]; decide), if_neg (by omega), if_neg (by omega)]
    repeat' split
    all_goals decide
theorem clamp_twice (x lo hi : Nat) (h : less hi lo = false) : same (clamp (clamp x lo hi) lo hi) (clamp x lo hi) = true := by
  have e : clamp (clamp x lo hi) lo hi = clamp x lo hi := by
    by_cases h1 : less x lo = true
    · have : clamp x lo hi = lo := by unfold clamp; rw [if_pos h1]
      rw [this]; unfold clamp; rw [less_irr, if_neg (by decide), h, if_neg (by decide)]
    · by_cases h2 : less hi x = true
      · have : clamp x lo hi = hi := by unfold clamp; rw [if_neg h1, if_pos h2]
        rw [this]; unfold clamp; rw [h, if_neg (by decide), less_irr, if_neg (by decide)]
      · have : clamp x lo hi = x := by unfold clamp; rw [if_neg h1, if_neg h2]
        rw [this, this]
  rw [e]; exact same_refl _
theorem ge_W (x y : Nat) : (FloatKind.f64.format.order x y == some .gt || FloatKind.f64.format.order x y == some .eq) = (!N x && !N y && decide (W y ≤ W x)) := by
  rw [gt_W, eq_W]
  cases N x <;> cases N y <;> simp
  rw [Bool.eq_iff_iff]; simp; omega
theorem le_W (x y : Nat) : (FloatKind.f64.format.order x y == some .lt || FloatKind.f64.format.order x y == some .eq) = (!N x && !N y && decide (W x ≤ W y)) := by
  rw [lt_W, eq_W]
  cases N x <;> cases N y <;> simp
  rw [Bool.eq_iff_iff]; simp; omega
/-- The middle where it isn't told of. -/
theorem mid_walk_a (x y lo hi k k2 : Nat) (l p q : Bool) (a b : Int) (w : World) (hk : clamp x lo hi = k) (hk2 : clamp k lo hi = k2) (hl : less hi lo = l) (hs : l = false → same k2 k = true)
    (ha : cls x = a) (hbb : cls y = b) (hp : ex x = p) (hq : ex y = q) (h : ¬ (2 ≤ a ∧ a ≤ 5 ∧ 2 ≤ b ∧ b ≤ 5 ∧ p = true ∧ q = true)) :
    Calls Try.prog 5 #[.float .f64 x, .float .f64 y, .float .f64 lo, .float .f64 hi] w fun e w' => e = .returned (.bool true) ∧ Below w.heap.size w w' := by
  have HB := Below.refl w.heap.size w
  by_cases a1 : a < 2
  · have a1b := decide_eq_true a1
    clear h a1
    cases l with
    | true =>
      clear hs
      go_enter Try.func5, Try.ntmps5
      go_wp2_with (first | (go_at_call 10; with_reducible refine (awake_calls _).mono ?_; rintro e w1 ⟨rfl, rfl⟩) | (go_at_call 19; with_reducible refine (mid_calls x y _).mono ?_; rintro e w1 ⟨m, rfl, hb, hm⟩; replace HB := L.bel HB hb; clear hb; (try obtain rfl := hm _ hv); (try clear hm)) | (go_at_call 19; with_reducible refine (mid_calls y x _).mono ?_; rintro e w1 ⟨m, rfl, hb, hm⟩; replace HB := L.bel HB hb; clear hb; (try obtain rfl := hm _ hv2); (try clear hm)) | (go_at_call 17; with_reducible refine (clamp_calls x lo hi k _ hk).mono ?_; rintro e w1 ⟨rfl, rfl⟩) | (go_at_call 17; with_reducible refine (clamp_calls k lo hi k2 _ hk2).mono ?_; rintro e w1 ⟨rfl, rfl⟩) | (go_at_call 11; with_reducible refine (less_calls hi lo _ _ hl).mono ?_; rintro e w1 ⟨rfl, rfl⟩) | (go_at_call 12; with_reducible refine (same_calls k2 k true _ hs).mono ?_; rintro e w1 ⟨rfl, rfl⟩) | (go_at_call 13; with_reducible refine (class_calls x a _ ha).mono ?_; rintro e w1 ⟨rfl, rfl⟩) | (go_at_call 13; with_reducible refine (class_calls y b _ hbb).mono ?_; rintro e w1 ⟨rfl, rfl⟩) | (go_at_call 20; with_reducible refine (exact_calls x _ _ hp).mono ?_; rintro e w1 ⟨rfl, rfl⟩) | (go_at_call 20; with_reducible refine (exact_calls y _ _ hq).mono ?_; rintro e w1 ⟨rfl, rfl⟩) | (go_at_call 13; with_reducible refine (class_calls v c _ hc).mono ?_; rintro e w1 ⟨rfl, rfl⟩) | (go_at_call 16; with_reducible refine (rsame_calls v v true _ hvv).mono ?_; rintro e w1 ⟨rfl, rfl⟩))
      go_ret
      exact ⟨L.ret_bool (by first | rfl | simp [*]), HB⟩
    | false =>
      replace hs := hs rfl
      go_enter Try.func5, Try.ntmps5
      go_wp2_with (first | (go_at_call 10; with_reducible refine (awake_calls _).mono ?_; rintro e w1 ⟨rfl, rfl⟩) | (go_at_call 19; with_reducible refine (mid_calls x y _).mono ?_; rintro e w1 ⟨m, rfl, hb, hm⟩; replace HB := L.bel HB hb; clear hb; (try obtain rfl := hm _ hv); (try clear hm)) | (go_at_call 19; with_reducible refine (mid_calls y x _).mono ?_; rintro e w1 ⟨m, rfl, hb, hm⟩; replace HB := L.bel HB hb; clear hb; (try obtain rfl := hm _ hv2); (try clear hm)) | (go_at_call 17; with_reducible refine (clamp_calls x lo hi k _ hk).mono ?_; rintro e w1 ⟨rfl, rfl⟩) | (go_at_call 17; with_reducible refine (clamp_calls k lo hi k2 _ hk2).mono ?_; rintro e w1 ⟨rfl, rfl⟩) | (go_at_call 11; with_reducible refine (less_calls hi lo _ _ hl).mono ?_; rintro e w1 ⟨rfl, rfl⟩) | (go_at_call 12; with_reducible refine (same_calls k2 k true _ hs).mono ?_; rintro e w1 ⟨rfl, rfl⟩) | (go_at_call 13; with_reducible refine (class_calls x a _ ha).mono ?_; rintro e w1 ⟨rfl, rfl⟩) | (go_at_call 13; with_reducible refine (class_calls y b _ hbb).mono ?_; rintro e w1 ⟨rfl, rfl⟩) | (go_at_call 20; with_reducible refine (exact_calls x _ _ hp).mono ?_; rintro e w1 ⟨rfl, rfl⟩) | (go_at_call 20; with_reducible refine (exact_calls y _ _ hq).mono ?_; rintro e w1 ⟨rfl, rfl⟩) | (go_at_call 13; with_reducible refine (class_calls v c _ hc).mono ?_; rintro e w1 ⟨rfl, rfl⟩) | (go_at_call 16; with_reducible refine (rsame_calls v v true _ hvv).mono ?_; rintro e w1 ⟨rfl, rfl⟩))
      go_ret
      exact ⟨L.ret_bool (by first | rfl | simp [*]), HB⟩
  have a1b := decide_eq_false a1
  by_cases a2 : 5 < a
  · have a2b := decide_eq_true a2
    clear h a1 a2
    cases l with
    | true =>
      clear hs
      go_enter Try.func5, Try.ntmps5
      go_wp2_with (first | (go_at_call 10; with_reducible refine (awake_calls _).mono ?_; rintro e w1 ⟨rfl, rfl⟩) | (go_at_call 19; with_reducible refine (mid_calls x y _).mono ?_; rintro e w1 ⟨m, rfl, hb, hm⟩; replace HB := L.bel HB hb; clear hb; (try obtain rfl := hm _ hv); (try clear hm)) | (go_at_call 19; with_reducible refine (mid_calls y x _).mono ?_; rintro e w1 ⟨m, rfl, hb, hm⟩; replace HB := L.bel HB hb; clear hb; (try obtain rfl := hm _ hv2); (try clear hm)) | (go_at_call 17; with_reducible refine (clamp_calls x lo hi k _ hk).mono ?_; rintro e w1 ⟨rfl, rfl⟩) | (go_at_call 17; with_reducible refine (clamp_calls k lo hi k2 _ hk2).mono ?_; rintro e w1 ⟨rfl, rfl⟩) | (go_at_call 11; with_reducible refine (less_calls hi lo _ _ hl).mono ?_; rintro e w1 ⟨rfl, rfl⟩) | (go_at_call 12; with_reducible refine (same_calls k2 k true _ hs).mono ?_; rintro e w1 ⟨rfl, rfl⟩) | (go_at_call 13; with_reducible refine (class_calls x a _ ha).mono ?_; rintro e w1 ⟨rfl, rfl⟩) | (go_at_call 13; with_reducible refine (class_calls y b _ hbb).mono ?_; rintro e w1 ⟨rfl, rfl⟩) | (go_at_call 20; with_reducible refine (exact_calls x _ _ hp).mono ?_; rintro e w1 ⟨rfl, rfl⟩) | (go_at_call 20; with_reducible refine (exact_calls y _ _ hq).mono ?_; rintro e w1 ⟨rfl, rfl⟩) | (go_at_call 13; with_reducible refine (class_calls v c _ hc).mono ?_; rintro e w1 ⟨rfl, rfl⟩) | (go_at_call 16; with_reducible refine (rsame_calls v v true _ hvv).mono ?_; rintro e w1 ⟨rfl, rfl⟩))
      go_ret
      exact ⟨L.ret_bool (by first | rfl | simp [*]), HB⟩
    | false =>
      replace hs := hs rfl
      go_enter Try.func5, Try.ntmps5
      go_wp2_with (first | (go_at_call 10; with_reducible refine (awake_calls _).mono ?_; rintro e w1 ⟨rfl, rfl⟩) | (go_at_call 19; with_reducible refine (mid_calls x y _).mono ?_; rintro e w1 ⟨m, rfl, hb, hm⟩; replace HB := L.bel HB hb; clear hb; (try obtain rfl := hm _ hv); (try clear hm)) | (go_at_call 19; with_reducible refine (mid_calls y x _).mono ?_; rintro e w1 ⟨m, rfl, hb, hm⟩; replace HB := L.bel HB hb; clear hb; (try obtain rfl := hm _ hv2); (try clear hm)) | (go_at_call 17; with_reducible refine (clamp_calls x lo hi k _ hk).mono ?_; rintro e w1 ⟨rfl, rfl⟩) | (go_at_call 17; with_reducible refine (clamp_calls k lo hi k2 _ hk2).mono ?_; rintro e w1 ⟨rfl, rfl⟩) | (go_at_call 11; with_reducible refine (less_calls hi lo _ _ hl).mono ?_; rintro e w1 ⟨rfl, rfl⟩) | (go_at_call 12; with_reducible refine (same_calls k2 k true _ hs).mono ?_; rintro e w1 ⟨rfl, rfl⟩) | (go_at_call 13; with_reducible refine (class_calls x a _ ha).mono ?_; rintro e w1 ⟨rfl, rfl⟩) | (go_at_call 13; with_reducible refine (class_calls y b _ hbb).mono ?_; rintro e w1 ⟨rfl, rfl⟩) | (go_at_call 20; with_reducible refine (exact_calls x _ _ hp).mono ?_; rintro e w1 ⟨rfl, rfl⟩) | (go_at_call 20; with_reducible refine (exact_calls y _ _ hq).mono ?_; rintro e w1 ⟨rfl, rfl⟩) | (go_at_call 13; with_reducible refine (class_calls v c _ hc).mono ?_; rintro e w1 ⟨rfl, rfl⟩) | (go_at_call 16; with_reducible refine (rsame_calls v v true _ hvv).mono ?_; rintro e w1 ⟨rfl, rfl⟩))
      go_ret
      exact ⟨L.ret_bool (by first | rfl | simp [*]), HB⟩
  have a2b := decide_eq_false a2
  by_cases a3 : b < 2
  · have a3b := decide_eq_true a3
    clear h a1 a2 a3
    cases l with
    | true =>
      clear hs
      go_enter Try.func5, Try.ntmps5
      go_wp2_with (first | (go_at_call 10; with_reducible refine (awake_calls _).mono ?_; rintro e w1 ⟨rfl, rfl⟩) | (go_at_call 19; with_reducible refine (mid_calls x y _).mono ?_; rintro e w1 ⟨m, rfl, hb, hm⟩; replace HB := L.bel HB hb; clear hb; (try obtain rfl := hm _ hv); (try clear hm)) | (go_at_call 19; with_reducible refine (mid_calls y x _).mono ?_; rintro e w1 ⟨m, rfl, hb, hm⟩; replace HB := L.bel HB hb; clear hb; (try obtain rfl := hm _ hv2); (try clear hm)) | (go_at_call 17; with_reducible refine (clamp_calls x lo hi k _ hk).mono ?_; rintro e w1 ⟨rfl, rfl⟩) | (go_at_call 17; with_reducible refine (clamp_calls k lo hi k2 _ hk2).mono ?_; rintro e w1 ⟨rfl, rfl⟩) | (go_at_call 11; with_reducible refine (less_calls hi lo _ _ hl).mono ?_; rintro e w1 ⟨rfl, rfl⟩) | (go_at_call 12; with_reducible refine (same_calls k2 k true _ hs).mono ?_; rintro e w1 ⟨rfl, rfl⟩) | (go_at_call 13; with_reducible refine (class_calls x a _ ha).mono ?_; rintro e w1 ⟨rfl, rfl⟩) | (go_at_call 13; with_reducible refine (class_calls y b _ hbb).mono ?_; rintro e w1 ⟨rfl, rfl⟩) | (go_at_call 20; with_reducible refine (exact_calls x _ _ hp).mono ?_; rintro e w1 ⟨rfl, rfl⟩) | (go_at_call 20; with_reducible refine (exact_calls y _ _ hq).mono ?_; rintro e w1 ⟨rfl, rfl⟩) | (go_at_call 13; with_reducible refine (class_calls v c _ hc).mono ?_; rintro e w1 ⟨rfl, rfl⟩) | (go_at_call 16; with_reducible refine (rsame_calls v v true _ hvv).mono ?_; rintro e w1 ⟨rfl, rfl⟩))
      go_ret
      exact ⟨L.ret_bool (by first | rfl | simp [*]), HB⟩
    | false =>
      replace hs := hs rfl
      go_enter Try.func5, Try.ntmps5
      go_wp2_with (first | (go_at_call 10; with_reducible refine (awake_calls _).mono ?_; rintro e w1 ⟨rfl, rfl⟩) | (go_at_call 19; with_reducible refine (mid_calls x y _).mono ?_; rintro e w1 ⟨m, rfl, hb, hm⟩; replace HB := L.bel HB hb; clear hb; (try obtain rfl := hm _ hv); (try clear hm)) | (go_at_call 19; with_reducible refine (mid_calls y x _).mono ?_; rintro e w1 ⟨m, rfl, hb, hm⟩; replace HB := L.bel HB hb; clear hb; (try obtain rfl := hm _ hv2); (try clear hm)) | (go_at_call 17; with_reducible refine (clamp_calls x lo hi k _ hk).mono ?_; rintro e w1 ⟨rfl, rfl⟩) | (go_at_call 17; with_reducible refine (clamp_calls k lo hi k2 _ hk2).mono ?_; rintro e w1 ⟨rfl, rfl⟩) | (go_at_call 11; with_reducible refine (less_calls hi lo _ _ hl).mono ?_; rintro e w1 ⟨rfl, rfl⟩) | (go_at_call 12; with_reducible refine (same_calls k2 k true _ hs).mono ?_; rintro e w1 ⟨rfl, rfl⟩) | (go_at_call 13; with_reducible refine (class_calls x a _ ha).mono ?_; rintro e w1 ⟨rfl, rfl⟩) | (go_at_call 13; with_reducible refine (class_calls y b _ hbb).mono ?_; rintro e w1 ⟨rfl, rfl⟩) | (go_at_call 20; with_reducible refine (exact_calls x _ _ hp).mono ?_; rintro e w1 ⟨rfl, rfl⟩) | (go_at_call 20; with_reducible refine (exact_calls y _ _ hq).mono ?_; rintro e w1 ⟨rfl, rfl⟩) | (go_at_call 13; with_reducible refine (class_calls v c _ hc).mono ?_; rintro e w1 ⟨rfl, rfl⟩) | (go_at_call 16; with_reducible refine (rsame_calls v v true _ hvv).mono ?_; rintro e w1 ⟨rfl, rfl⟩))
      go_ret
      exact ⟨L.ret_bool (by first | rfl | simp [*]), HB⟩
  have a3b := decide_eq_false a3
  by_cases a4 : 5 < b
  · have a4b := decide_eq_true a4
    clear h a1 a2 a3 a4
    cases l with
    | true =>
      clear hs
      go_enter Try.func5, Try.ntmps5
      go_wp2_with (first | (go_at_call 10; with_reducible refine (awake_calls _).mono ?_; rintro e w1 ⟨rfl, rfl⟩) | (go_at_call 19; with_reducible refine (mid_calls x y _).mono ?_; rintro e w1 ⟨m, rfl, hb, hm⟩; replace HB := L.bel HB hb; clear hb; (try obtain rfl := hm _ hv); (try clear hm)) | (go_at_call 19; with_reducible refine (mid_calls y x _).mono ?_; rintro e w1 ⟨m, rfl, hb, hm⟩; replace HB := L.bel HB hb; clear hb; (try obtain rfl := hm _ hv2); (try clear hm)) | (go_at_call 17; with_reducible refine (clamp_calls x lo hi k _ hk).mono ?_; rintro e w1 ⟨rfl, rfl⟩) | (go_at_call 17; with_reducible refine (clamp_calls k lo hi k2 _ hk2).mono ?_; rintro e w1 ⟨rfl, rfl⟩) | (go_at_call 11; with_reducible refine (less_calls hi lo _ _ hl).mono ?_; rintro e w1 ⟨rfl, rfl⟩) | (go_at_call 12; with_reducible refine (same_calls k2 k true _ hs).mono ?_; rintro e w1 ⟨rfl, rfl⟩) | (go_at_call 13; with_reducible refine (class_calls x a _ ha).mono ?_; rintro e w1 ⟨rfl, rfl⟩) | (go_at_call 13; with_reducible refine (class_calls y b _ hbb).mono ?_; rintro e w1 ⟨rfl, rfl⟩) | (go_at_call 20; with_reducible refine (exact_calls x _ _ hp).mono ?_; rintro e w1 ⟨rfl, rfl⟩) | (go_at_call 20; with_reducible refine (exact_calls y _ _ hq).mono ?_; rintro e w1 ⟨rfl, rfl⟩) | (go_at_call 13; with_reducible refine (class_calls v c _ hc).mono ?_; rintro e w1 ⟨rfl, rfl⟩) | (go_at_call 16; with_reducible refine (rsame_calls v v true _ hvv).mono ?_; rintro e w1 ⟨rfl, rfl⟩))
      go_ret
      exact ⟨L.ret_bool (by first | rfl | simp [*]), HB⟩
    | false =>
      replace hs := hs rfl
      go_enter Try.func5, Try.ntmps5
      go_wp2_with (first | (go_at_call 10; with_reducible refine (awake_calls _).mono ?_; rintro e w1 ⟨rfl, rfl⟩) | (go_at_call 19; with_reducible refine (mid_calls x y _).mono ?_; rintro e w1 ⟨m, rfl, hb, hm⟩; replace HB := L.bel HB hb; clear hb; (try obtain rfl := hm _ hv); (try clear hm)) | (go_at_call 19; with_reducible refine (mid_calls y x _).mono ?_; rintro e w1 ⟨m, rfl, hb, hm⟩; replace HB := L.bel HB hb; clear hb; (try obtain rfl := hm _ hv2); (try clear hm)) | (go_at_call 17; with_reducible refine (clamp_calls x lo hi k _ hk).mono ?_; rintro e w1 ⟨rfl, rfl⟩) | (go_at_call 17; with_reducible refine (clamp_calls k lo hi k2 _ hk2).mono ?_; rintro e w1 ⟨rfl, rfl⟩) | (go_at_call 11; with_reducible refine (less_calls hi lo _ _ hl).mono ?_; rintro e w1 ⟨rfl, rfl⟩) | (go_at_call 12; with_reducible refine (same_calls k2 k true _ hs).mono ?_; rintro e w1 ⟨rfl, rfl⟩) | (go_at_call 13; with_reducible refine (class_calls x a _ ha).mono ?_; rintro e w1 ⟨rfl, rfl⟩) | (go_at_call 13; with_reducible refine (class_calls y b _ hbb).mono ?_; rintro e w1 ⟨rfl, rfl⟩) | (go_at_call 20; with_reducible refine (exact_calls x _ _ hp).mono ?_; rintro e w1 ⟨rfl, rfl⟩) | (go_at_call 20; with_reducible refine (exact_calls y _ _ hq).mono ?_; rintro e w1 ⟨rfl, rfl⟩) | (go_at_call 13; with_reducible refine (class_calls v c _ hc).mono ?_; rintro e w1 ⟨rfl, rfl⟩) | (go_at_call 16; with_reducible refine (rsame_calls v v true _ hvv).mono ?_; rintro e w1 ⟨rfl, rfl⟩))
      go_ret
      exact ⟨L.ret_bool (by first | rfl | simp [*]), HB⟩
  have a4b := decide_eq_false a4
  have h' : p = true → q = false := by
    intro e
    cases q
    · rfl
    · exact absurd ⟨by omega, by omega, by omega, by omega, e, rfl⟩ h
  clear h a1 a2 a3 a4
  cases p with
  | false =>
    clear h'
    cases l with
    | true =>
      clear hs
      go_enter Try.func5, Try.ntmps5
      go_wp2_with (first | (go_at_call 10; with_reducible refine (awake_calls _).mono ?_; rintro e w1 ⟨rfl, rfl⟩) | (go_at_call 19; with_reducible refine (mid_calls x y _).mono ?_; rintro e w1 ⟨m, rfl, hb, hm⟩; replace HB := L.bel HB hb; clear hb; (try obtain rfl := hm _ hv); (try clear hm)) | (go_at_call 19; with_reducible refine (mid_calls y x _).mono ?_; rintro e w1 ⟨m, rfl, hb, hm⟩; replace HB := L.bel HB hb; clear hb; (try obtain rfl := hm _ hv2); (try clear hm)) | (go_at_call 17; with_reducible refine (clamp_calls x lo hi k _ hk).mono ?_; rintro e w1 ⟨rfl, rfl⟩) | (go_at_call 17; with_reducible refine (clamp_calls k lo hi k2 _ hk2).mono ?_; rintro e w1 ⟨rfl, rfl⟩) | (go_at_call 11; with_reducible refine (less_calls hi lo _ _ hl).mono ?_; rintro e w1 ⟨rfl, rfl⟩) | (go_at_call 12; with_reducible refine (same_calls k2 k true _ hs).mono ?_; rintro e w1 ⟨rfl, rfl⟩) | (go_at_call 13; with_reducible refine (class_calls x a _ ha).mono ?_; rintro e w1 ⟨rfl, rfl⟩) | (go_at_call 13; with_reducible refine (class_calls y b _ hbb).mono ?_; rintro e w1 ⟨rfl, rfl⟩) | (go_at_call 20; with_reducible refine (exact_calls x _ _ hp).mono ?_; rintro e w1 ⟨rfl, rfl⟩) | (go_at_call 20; with_reducible refine (exact_calls y _ _ hq).mono ?_; rintro e w1 ⟨rfl, rfl⟩) | (go_at_call 13; with_reducible refine (class_calls v c _ hc).mono ?_; rintro e w1 ⟨rfl, rfl⟩) | (go_at_call 16; with_reducible refine (rsame_calls v v true _ hvv).mono ?_; rintro e w1 ⟨rfl, rfl⟩))
      go_ret
      exact ⟨L.ret_bool (by first | rfl | simp [*]), HB⟩
    | false =>
      replace hs := hs rfl
      go_enter Try.func5, Try.ntmps5
      go_wp2_with (first | (go_at_call 10; with_reducible refine (awake_calls _).mono ?_; rintro e w1 ⟨rfl, rfl⟩) | (go_at_call 19; with_reducible refine (mid_calls x y _).mono ?_; rintro e w1 ⟨m, rfl, hb, hm⟩; replace HB := L.bel HB hb; clear hb; (try obtain rfl := hm _ hv); (try clear hm)) | (go_at_call 19; with_reducible refine (mid_calls y x _).mono ?_; rintro e w1 ⟨m, rfl, hb, hm⟩; replace HB := L.bel HB hb; clear hb; (try obtain rfl := hm _ hv2); (try clear hm)) | (go_at_call 17; with_reducible refine (clamp_calls x lo hi k _ hk).mono ?_; rintro e w1 ⟨rfl, rfl⟩) | (go_at_call 17; with_reducible refine (clamp_calls k lo hi k2 _ hk2).mono ?_; rintro e w1 ⟨rfl, rfl⟩) | (go_at_call 11; with_reducible refine (less_calls hi lo _ _ hl).mono ?_; rintro e w1 ⟨rfl, rfl⟩) | (go_at_call 12; with_reducible refine (same_calls k2 k true _ hs).mono ?_; rintro e w1 ⟨rfl, rfl⟩) | (go_at_call 13; with_reducible refine (class_calls x a _ ha).mono ?_; rintro e w1 ⟨rfl, rfl⟩) | (go_at_call 13; with_reducible refine (class_calls y b _ hbb).mono ?_; rintro e w1 ⟨rfl, rfl⟩) | (go_at_call 20; with_reducible refine (exact_calls x _ _ hp).mono ?_; rintro e w1 ⟨rfl, rfl⟩) | (go_at_call 20; with_reducible refine (exact_calls y _ _ hq).mono ?_; rintro e w1 ⟨rfl, rfl⟩) | (go_at_call 13; with_reducible refine (class_calls v c _ hc).mono ?_; rintro e w1 ⟨rfl, rfl⟩) | (go_at_call 16; with_reducible refine (rsame_calls v v true _ hvv).mono ?_; rintro e w1 ⟨rfl, rfl⟩))
      go_ret
      exact ⟨L.ret_bool (by first | rfl | simp [*]), HB⟩
  | true =>
    obtain rfl := h' rfl
    clear h'
    cases l with
    | true =>
      clear hs
      go_enter Try.func5, Try.ntmps5
      go_wp2_with (first | (go_at_call 10; with_reducible refine (awake_calls _).mono ?_; rintro e w1 ⟨rfl, rfl⟩) | (go_at_call 19; with_reducible refine (mid_calls x y _).mono ?_; rintro e w1 ⟨m, rfl, hb, hm⟩; replace HB := L.bel HB hb; clear hb; (try obtain rfl := hm _ hv); (try clear hm)) | (go_at_call 19; with_reducible refine (mid_calls y x _).mono ?_; rintro e w1 ⟨m, rfl, hb, hm⟩; replace HB := L.bel HB hb; clear hb; (try obtain rfl := hm _ hv2); (try clear hm)) | (go_at_call 17; with_reducible refine (clamp_calls x lo hi k _ hk).mono ?_; rintro e w1 ⟨rfl, rfl⟩) | (go_at_call 17; with_reducible refine (clamp_calls k lo hi k2 _ hk2).mono ?_; rintro e w1 ⟨rfl, rfl⟩) | (go_at_call 11; with_reducible refine (less_calls hi lo _ _ hl).mono ?_; rintro e w1 ⟨rfl, rfl⟩) | (go_at_call 12; with_reducible refine (same_calls k2 k true _ hs).mono ?_; rintro e w1 ⟨rfl, rfl⟩) | (go_at_call 13; with_reducible refine (class_calls x a _ ha).mono ?_; rintro e w1 ⟨rfl, rfl⟩) | (go_at_call 13; with_reducible refine (class_calls y b _ hbb).mono ?_; rintro e w1 ⟨rfl, rfl⟩) | (go_at_call 20; with_reducible refine (exact_calls x _ _ hp).mono ?_; rintro e w1 ⟨rfl, rfl⟩) | (go_at_call 20; with_reducible refine (exact_calls y _ _ hq).mono ?_; rintro e w1 ⟨rfl, rfl⟩) | (go_at_call 13; with_reducible refine (class_calls v c _ hc).mono ?_; rintro e w1 ⟨rfl, rfl⟩) | (go_at_call 16; with_reducible refine (rsame_calls v v true _ hvv).mono ?_; rintro e w1 ⟨rfl, rfl⟩))
      go_ret
      exact ⟨L.ret_bool (by first | rfl | simp [*]), HB⟩
    | false =>
      replace hs := hs rfl
      go_enter Try.func5, Try.ntmps5
      go_wp2_with (first | (go_at_call 10; with_reducible refine (awake_calls _).mono ?_; rintro e w1 ⟨rfl, rfl⟩) | (go_at_call 19; with_reducible refine (mid_calls x y _).mono ?_; rintro e w1 ⟨m, rfl, hb, hm⟩; replace HB := L.bel HB hb; clear hb; (try obtain rfl := hm _ hv); (try clear hm)) | (go_at_call 19; with_reducible refine (mid_calls y x _).mono ?_; rintro e w1 ⟨m, rfl, hb, hm⟩; replace HB := L.bel HB hb; clear hb; (try obtain rfl := hm _ hv2); (try clear hm)) | (go_at_call 17; with_reducible refine (clamp_calls x lo hi k _ hk).mono ?_; rintro e w1 ⟨rfl, rfl⟩) | (go_at_call 17; with_reducible refine (clamp_calls k lo hi k2 _ hk2).mono ?_; rintro e w1 ⟨rfl, rfl⟩) | (go_at_call 11; with_reducible refine (less_calls hi lo _ _ hl).mono ?_; rintro e w1 ⟨rfl, rfl⟩) | (go_at_call 12; with_reducible refine (same_calls k2 k true _ hs).mono ?_; rintro e w1 ⟨rfl, rfl⟩) | (go_at_call 13; with_reducible refine (class_calls x a _ ha).mono ?_; rintro e w1 ⟨rfl, rfl⟩) | (go_at_call 13; with_reducible refine (class_calls y b _ hbb).mono ?_; rintro e w1 ⟨rfl, rfl⟩) | (go_at_call 20; with_reducible refine (exact_calls x _ _ hp).mono ?_; rintro e w1 ⟨rfl, rfl⟩) | (go_at_call 20; with_reducible refine (exact_calls y _ _ hq).mono ?_; rintro e w1 ⟨rfl, rfl⟩) | (go_at_call 13; with_reducible refine (class_calls v c _ hc).mono ?_; rintro e w1 ⟨rfl, rfl⟩) | (go_at_call 16; with_reducible refine (rsame_calls v v true _ hvv).mono ?_; rintro e w1 ⟨rfl, rfl⟩))
      go_ret
      exact ⟨L.ret_bool (by first | rfl | simp [*]), HB⟩
theorem mid_walk_b (x y lo hi k k2 v : Nat) (l p q : Bool) (a b c : Int) (w : World) (hk : clamp x lo hi = k) (hk2 : clamp k lo hi = k2) (hl : less hi lo = l) (hs : l = false → same k2 k = true)
    (ha : cls x = a) (hbb : cls y = b) (hp : ex x = p) (hq : ex y = q) (h : 2 ≤ a ∧ a ≤ 5 ∧ 2 ≤ b ∧ b ≤ 5 ∧ p = true ∧ q = true) (hv : midv x y = some v) (hc : cls v = c) (hc2 : 2 ≤ c ∧ c ≤ 5)
    (hge : (FloatKind.f64.format.order v x == some .gt || FloatKind.f64.format.order v x == some .eq) = true ∨ (FloatKind.f64.format.order v y == some .gt || FloatKind.f64.format.order v y == some .eq) = true)
    (hle : (FloatKind.f64.format.order v x == some .lt || FloatKind.f64.format.order v x == some .eq) = true ∨ (FloatKind.f64.format.order v y == some .lt || FloatKind.f64.format.order v y == some .eq) = true) :
    Calls Try.prog 5 #[.float .f64 x, .float .f64 y, .float .f64 lo, .float .f64 hi] w fun e w' => e = .returned (.bool true) ∧ Below w.heap.size w w' := by
  have HB := Below.refl w.heap.size w
  obtain ⟨h1, h2, h3, h4, rfl, rfl⟩ := h
  have hv2 : midv y x = some v := by rw [midv_comm]; exact hv
  have hvv := same_refl v
  have a1b : decide (a < 2) = false := decide_eq_false (by omega)
  have a2b : decide (5 < a) = false := decide_eq_false (by omega)
  have a3b : decide (b < 2) = false := decide_eq_false (by omega)
  have a4b : decide (5 < b) = false := decide_eq_false (by omega)
  have c1b : decide (2 ≤ c) = true := decide_eq_true hc2.1
  have c2b : decide (c ≤ 5) = true := decide_eq_true hc2.2
  clear h1 h2 h3 h4 hc2
  generalize e1 : (FloatKind.f64.format.order v x == some .gt || FloatKind.f64.format.order v x == some .eq) = g1 at hge
  generalize e2 : (FloatKind.f64.format.order v y == some .gt || FloatKind.f64.format.order v y == some .eq) = g2 at hge
  generalize e3 : (FloatKind.f64.format.order v x == some .lt || FloatKind.f64.format.order v x == some .eq) = g3 at hle
  generalize e4 : (FloatKind.f64.format.order v y == some .lt || FloatKind.f64.format.order v y == some .eq) = g4 at hle
  cases l with
  | true =>
    clear hs
    cases g1 <;> cases g3
    · obtain rfl : g2 = true := by simpa using hge
      obtain rfl : g4 = true := by simpa using hle
      clear hge hle
      go_enter Try.func5, Try.ntmps5
      go_wp2_with (first | (go_at_call 10; with_reducible refine (awake_calls _).mono ?_; rintro e w1 ⟨rfl, rfl⟩) | (go_at_call 19; with_reducible refine (mid_calls x y _).mono ?_; rintro e w1 ⟨m, rfl, hb, hm⟩; replace HB := L.bel HB hb; clear hb; (try obtain rfl := hm _ hv); (try clear hm)) | (go_at_call 19; with_reducible refine (mid_calls y x _).mono ?_; rintro e w1 ⟨m, rfl, hb, hm⟩; replace HB := L.bel HB hb; clear hb; (try obtain rfl := hm _ hv2); (try clear hm)) | (go_at_call 17; with_reducible refine (clamp_calls x lo hi k _ hk).mono ?_; rintro e w1 ⟨rfl, rfl⟩) | (go_at_call 17; with_reducible refine (clamp_calls k lo hi k2 _ hk2).mono ?_; rintro e w1 ⟨rfl, rfl⟩) | (go_at_call 11; with_reducible refine (less_calls hi lo _ _ hl).mono ?_; rintro e w1 ⟨rfl, rfl⟩) | (go_at_call 12; with_reducible refine (same_calls k2 k true _ hs).mono ?_; rintro e w1 ⟨rfl, rfl⟩) | (go_at_call 13; with_reducible refine (class_calls x a _ ha).mono ?_; rintro e w1 ⟨rfl, rfl⟩) | (go_at_call 13; with_reducible refine (class_calls y b _ hbb).mono ?_; rintro e w1 ⟨rfl, rfl⟩) | (go_at_call 20; with_reducible refine (exact_calls x _ _ hp).mono ?_; rintro e w1 ⟨rfl, rfl⟩) | (go_at_call 20; with_reducible refine (exact_calls y _ _ hq).mono ?_; rintro e w1 ⟨rfl, rfl⟩) | (go_at_call 13; with_reducible refine (class_calls v c _ hc).mono ?_; rintro e w1 ⟨rfl, rfl⟩) | (go_at_call 16; with_reducible refine (rsame_calls v v true _ hvv).mono ?_; rintro e w1 ⟨rfl, rfl⟩))
      go_ret
      exact ⟨L.ret_bool (by first | rfl | simp [*]), HB⟩
    · obtain rfl : g2 = true := by simpa using hge
      clear hge hle
      go_enter Try.func5, Try.ntmps5
      go_wp2_with (first | (go_at_call 10; with_reducible refine (awake_calls _).mono ?_; rintro e w1 ⟨rfl, rfl⟩) | (go_at_call 19; with_reducible refine (mid_calls x y _).mono ?_; rintro e w1 ⟨m, rfl, hb, hm⟩; replace HB := L.bel HB hb; clear hb; (try obtain rfl := hm _ hv); (try clear hm)) | (go_at_call 19; with_reducible refine (mid_calls y x _).mono ?_; rintro e w1 ⟨m, rfl, hb, hm⟩; replace HB := L.bel HB hb; clear hb; (try obtain rfl := hm _ hv2); (try clear hm)) | (go_at_call 17; with_reducible refine (clamp_calls x lo hi k _ hk).mono ?_; rintro e w1 ⟨rfl, rfl⟩) | (go_at_call 17; with_reducible refine (clamp_calls k lo hi k2 _ hk2).mono ?_; rintro e w1 ⟨rfl, rfl⟩) | (go_at_call 11; with_reducible refine (less_calls hi lo _ _ hl).mono ?_; rintro e w1 ⟨rfl, rfl⟩) | (go_at_call 12; with_reducible refine (same_calls k2 k true _ hs).mono ?_; rintro e w1 ⟨rfl, rfl⟩) | (go_at_call 13; with_reducible refine (class_calls x a _ ha).mono ?_; rintro e w1 ⟨rfl, rfl⟩) | (go_at_call 13; with_reducible refine (class_calls y b _ hbb).mono ?_; rintro e w1 ⟨rfl, rfl⟩) | (go_at_call 20; with_reducible refine (exact_calls x _ _ hp).mono ?_; rintro e w1 ⟨rfl, rfl⟩) | (go_at_call 20; with_reducible refine (exact_calls y _ _ hq).mono ?_; rintro e w1 ⟨rfl, rfl⟩) | (go_at_call 13; with_reducible refine (class_calls v c _ hc).mono ?_; rintro e w1 ⟨rfl, rfl⟩) | (go_at_call 16; with_reducible refine (rsame_calls v v true _ hvv).mono ?_; rintro e w1 ⟨rfl, rfl⟩))
      go_ret
      exact ⟨L.ret_bool (by first | rfl | simp [*]), HB⟩
    · obtain rfl : g4 = true := by simpa using hle
      clear hge hle
      go_enter Try.func5, Try.ntmps5
      go_wp2_with (first | (go_at_call 10; with_reducible refine (awake_calls _).mono ?_; rintro e w1 ⟨rfl, rfl⟩) | (go_at_call 19; with_reducible refine (mid_calls x y _).mono ?_; rintro e w1 ⟨m, rfl, hb, hm⟩; replace HB := L.bel HB hb; clear hb; (try obtain rfl := hm _ hv); (try clear hm)) | (go_at_call 19; with_reducible refine (mid_calls y x _).mono ?_; rintro e w1 ⟨m, rfl, hb, hm⟩; replace HB := L.bel HB hb; clear hb; (try obtain rfl := hm _ hv2); (try clear hm)) | (go_at_call 17; with_reducible refine (clamp_calls x lo hi k _ hk).mono ?_; rintro e w1 ⟨rfl, rfl⟩) | (go_at_call 17; with_reducible refine (clamp_calls k lo hi k2 _ hk2).mono ?_; rintro e w1 ⟨rfl, rfl⟩) | (go_at_call 11; with_reducible refine (less_calls hi lo _ _ hl).mono ?_; rintro e w1 ⟨rfl, rfl⟩) | (go_at_call 12; with_reducible refine (same_calls k2 k true _ hs).mono ?_; rintro e w1 ⟨rfl, rfl⟩) | (go_at_call 13; with_reducible refine (class_calls x a _ ha).mono ?_; rintro e w1 ⟨rfl, rfl⟩) | (go_at_call 13; with_reducible refine (class_calls y b _ hbb).mono ?_; rintro e w1 ⟨rfl, rfl⟩) | (go_at_call 20; with_reducible refine (exact_calls x _ _ hp).mono ?_; rintro e w1 ⟨rfl, rfl⟩) | (go_at_call 20; with_reducible refine (exact_calls y _ _ hq).mono ?_; rintro e w1 ⟨rfl, rfl⟩) | (go_at_call 13; with_reducible refine (class_calls v c _ hc).mono ?_; rintro e w1 ⟨rfl, rfl⟩) | (go_at_call 16; with_reducible refine (rsame_calls v v true _ hvv).mono ?_; rintro e w1 ⟨rfl, rfl⟩))
      go_ret
      exact ⟨L.ret_bool (by first | rfl | simp [*]), HB⟩
    · clear hge hle
      go_enter Try.func5, Try.ntmps5
      go_wp2_with (first | (go_at_call 10; with_reducible refine (awake_calls _).mono ?_; rintro e w1 ⟨rfl, rfl⟩) | (go_at_call 19; with_reducible refine (mid_calls x y _).mono ?_; rintro e w1 ⟨m, rfl, hb, hm⟩; replace HB := L.bel HB hb; clear hb; (try obtain rfl := hm _ hv); (try clear hm)) | (go_at_call 19; with_reducible refine (mid_calls y x _).mono ?_; rintro e w1 ⟨m, rfl, hb, hm⟩; replace HB := L.bel HB hb; clear hb; (try obtain rfl := hm _ hv2); (try clear hm)) | (go_at_call 17; with_reducible refine (clamp_calls x lo hi k _ hk).mono ?_; rintro e w1 ⟨rfl, rfl⟩) | (go_at_call 17; with_reducible refine (clamp_calls k lo hi k2 _ hk2).mono ?_; rintro e w1 ⟨rfl, rfl⟩) | (go_at_call 11; with_reducible refine (less_calls hi lo _ _ hl).mono ?_; rintro e w1 ⟨rfl, rfl⟩) | (go_at_call 12; with_reducible refine (same_calls k2 k true _ hs).mono ?_; rintro e w1 ⟨rfl, rfl⟩) | (go_at_call 13; with_reducible refine (class_calls x a _ ha).mono ?_; rintro e w1 ⟨rfl, rfl⟩) | (go_at_call 13; with_reducible refine (class_calls y b _ hbb).mono ?_; rintro e w1 ⟨rfl, rfl⟩) | (go_at_call 20; with_reducible refine (exact_calls x _ _ hp).mono ?_; rintro e w1 ⟨rfl, rfl⟩) | (go_at_call 20; with_reducible refine (exact_calls y _ _ hq).mono ?_; rintro e w1 ⟨rfl, rfl⟩) | (go_at_call 13; with_reducible refine (class_calls v c _ hc).mono ?_; rintro e w1 ⟨rfl, rfl⟩) | (go_at_call 16; with_reducible refine (rsame_calls v v true _ hvv).mono ?_; rintro e w1 ⟨rfl, rfl⟩))
      go_ret
      exact ⟨L.ret_bool (by first | rfl | simp [*]), HB⟩
  | false =>
    replace hs := hs rfl
    cases g1 <;> cases g3
    · obtain rfl : g2 = true := by simpa using hge
      obtain rfl : g4 = true := by simpa using hle
      clear hge hle
      go_enter Try.func5, Try.ntmps5
      go_wp2_with (first | (go_at_call 10; with_reducible refine (awake_calls _).mono ?_; rintro e w1 ⟨rfl, rfl⟩) | (go_at_call 19; with_reducible refine (mid_calls x y _).mono ?_; rintro e w1 ⟨m, rfl, hb, hm⟩; replace HB := L.bel HB hb; clear hb; (try obtain rfl := hm _ hv); (try clear hm)) | (go_at_call 19; with_reducible refine (mid_calls y x _).mono ?_; rintro e w1 ⟨m, rfl, hb, hm⟩; replace HB := L.bel HB hb; clear hb; (try obtain rfl := hm _ hv2); (try clear hm)) | (go_at_call 17; with_reducible refine (clamp_calls x lo hi k _ hk).mono ?_; rintro e w1 ⟨rfl, rfl⟩) | (go_at_call 17; with_reducible refine (clamp_calls k lo hi k2 _ hk2).mono ?_; rintro e w1 ⟨rfl, rfl⟩) | (go_at_call 11; with_reducible refine (less_calls hi lo _ _ hl).mono ?_; rintro e w1 ⟨rfl, rfl⟩) | (go_at_call 12; with_reducible refine (same_calls k2 k true _ hs).mono ?_; rintro e w1 ⟨rfl, rfl⟩) | (go_at_call 13; with_reducible refine (class_calls x a _ ha).mono ?_; rintro e w1 ⟨rfl, rfl⟩) | (go_at_call 13; with_reducible refine (class_calls y b _ hbb).mono ?_; rintro e w1 ⟨rfl, rfl⟩) | (go_at_call 20; with_reducible refine (exact_calls x _ _ hp).mono ?_; rintro e w1 ⟨rfl, rfl⟩) | (go_at_call 20; with_reducible refine (exact_calls y _ _ hq).mono ?_; rintro e w1 ⟨rfl, rfl⟩) | (go_at_call 13; with_reducible refine (class_calls v c _ hc).mono ?_; rintro e w1 ⟨rfl, rfl⟩) | (go_at_call 16; with_reducible refine (rsame_calls v v true _ hvv).mono ?_; rintro e w1 ⟨rfl, rfl⟩))
      go_ret
      exact ⟨L.ret_bool (by first | rfl | simp [*]), HB⟩
    · obtain rfl : g2 = true := by simpa using hge
      clear hge hle
      go_enter Try.func5, Try.ntmps5
      go_wp2_with (first | (go_at_call 10; with_reducible refine (awake_calls _).mono ?_; rintro e w1 ⟨rfl, rfl⟩) | (go_at_call 19; with_reducible refine (mid_calls x y _).mono ?_; rintro e w1 ⟨m, rfl, hb, hm⟩; replace HB := L.bel HB hb; clear hb; (try obtain rfl := hm _ hv); (try clear hm)) | (go_at_call 19; with_reducible refine (mid_calls y x _).mono ?_; rintro e w1 ⟨m, rfl, hb, hm⟩; replace HB := L.bel HB hb; clear hb; (try obtain rfl := hm _ hv2); (try clear hm)) | (go_at_call 17; with_reducible refine (clamp_calls x lo hi k _ hk).mono ?_; rintro e w1 ⟨rfl, rfl⟩) | (go_at_call 17; with_reducible refine (clamp_calls k lo hi k2 _ hk2).mono ?_; rintro e w1 ⟨rfl, rfl⟩) | (go_at_call 11; with_reducible refine (less_calls hi lo _ _ hl).mono ?_; rintro e w1 ⟨rfl, rfl⟩) | (go_at_call 12; with_reducible refine (same_calls k2 k true _ hs).mono ?_; rintro e w1 ⟨rfl, rfl⟩) | (go_at_call 13; with_reducible refine (class_calls x a _ ha).mono ?_; rintro e w1 ⟨rfl, rfl⟩) | (go_at_call 13; with_reducible refine (class_calls y b _ hbb).mono ?_; rintro e w1 ⟨rfl, rfl⟩) | (go_at_call 20; with_reducible refine (exact_calls x _ _ hp).mono ?_; rintro e w1 ⟨rfl, rfl⟩) | (go_at_call 20; with_reducible refine (exact_calls y _ _ hq).mono ?_; rintro e w1 ⟨rfl, rfl⟩) | (go_at_call 13; with_reducible refine (class_calls v c _ hc).mono ?_; rintro e w1 ⟨rfl, rfl⟩) | (go_at_call 16; with_reducible refine (rsame_calls v v true _ hvv).mono ?_; rintro e w1 ⟨rfl, rfl⟩))
      go_ret
      exact ⟨L.ret_bool (by first | rfl | simp [*]), HB⟩
    · obtain rfl : g4 = true := by simpa using hle
      clear hge hle
      go_enter Try.func5, Try.ntmps5
      go_wp2_with (first | (go_at_call 10; with_reducible refine (awake_calls _).mono ?_; rintro e w1 ⟨rfl, rfl⟩) | (go_at_call 19; with_reducible refine (mid_calls x y _).mono ?_; rintro e w1 ⟨m, rfl, hb, hm⟩; replace HB := L.bel HB hb; clear hb; (try obtain rfl := hm _ hv); (try clear hm)) | (go_at_call 19; with_reducible refine (mid_calls y x _).mono ?_; rintro e w1 ⟨m, rfl, hb, hm⟩; replace HB := L.bel HB hb; clear hb; (try obtain rfl := hm _ hv2); (try clear hm)) | (go_at_call 17; with_reducible refine (clamp_calls x lo hi k _ hk).mono ?_; rintro e w1 ⟨rfl, rfl⟩) | (go_at_call 17; with_reducible refine (clamp_calls k lo hi k2 _ hk2).mono ?_; rintro e w1 ⟨rfl, rfl⟩) | (go_at_call 11; with_reducible refine (less_calls hi lo _ _ hl).mono ?_; rintro e w1 ⟨rfl, rfl⟩) | (go_at_call 12; with_reducible refine (same_calls k2 k true _ hs).mono ?_; rintro e w1 ⟨rfl, rfl⟩) | (go_at_call 13; with_reducible refine (class_calls x a _ ha).mono ?_; rintro e w1 ⟨rfl, rfl⟩) | (go_at_call 13; with_reducible refine (class_calls y b _ hbb).mono ?_; rintro e w1 ⟨rfl, rfl⟩) | (go_at_call 20; with_reducible refine (exact_calls x _ _ hp).mono ?_; rintro e w1 ⟨rfl, rfl⟩) | (go_at_call 20; with_reducible refine (exact_calls y _ _ hq).mono ?_; rintro e w1 ⟨rfl, rfl⟩) | (go_at_call 13; with_reducible refine (class_calls v c _ hc).mono ?_; rintro e w1 ⟨rfl, rfl⟩) | (go_at_call 16; with_reducible refine (rsame_calls v v true _ hvv).mono ?_; rintro e w1 ⟨rfl, rfl⟩))
      go_ret
      exact ⟨L.ret_bool (by first | rfl | simp [*]), HB⟩
    · clear hge hle
      go_enter Try.func5, Try.ntmps5
      go_wp2_with (first | (go_at_call 10; with_reducible refine (awake_calls _).mono ?_; rintro e w1 ⟨rfl, rfl⟩) | (go_at_call 19; with_reducible refine (mid_calls x y _).mono ?_; rintro e w1 ⟨m, rfl, hb, hm⟩; replace HB := L.bel HB hb; clear hb; (try obtain rfl := hm _ hv); (try clear hm)) | (go_at_call 19; with_reducible refine (mid_calls y x _).mono ?_; rintro e w1 ⟨m, rfl, hb, hm⟩; replace HB := L.bel HB hb; clear hb; (try obtain rfl := hm _ hv2); (try clear hm)) | (go_at_call 17; with_reducible refine (clamp_calls x lo hi k _ hk).mono ?_; rintro e w1 ⟨rfl, rfl⟩) | (go_at_call 17; with_reducible refine (clamp_calls k lo hi k2 _ hk2).mono ?_; rintro e w1 ⟨rfl, rfl⟩) | (go_at_call 11; with_reducible refine (less_calls hi lo _ _ hl).mono ?_; rintro e w1 ⟨rfl, rfl⟩) | (go_at_call 12; with_reducible refine (same_calls k2 k true _ hs).mono ?_; rintro e w1 ⟨rfl, rfl⟩) | (go_at_call 13; with_reducible refine (class_calls x a _ ha).mono ?_; rintro e w1 ⟨rfl, rfl⟩) | (go_at_call 13; with_reducible refine (class_calls y b _ hbb).mono ?_; rintro e w1 ⟨rfl, rfl⟩) | (go_at_call 20; with_reducible refine (exact_calls x _ _ hp).mono ?_; rintro e w1 ⟨rfl, rfl⟩) | (go_at_call 20; with_reducible refine (exact_calls y _ _ hq).mono ?_; rintro e w1 ⟨rfl, rfl⟩) | (go_at_call 13; with_reducible refine (class_calls v c _ hc).mono ?_; rintro e w1 ⟨rfl, rfl⟩) | (go_at_call 16; with_reducible refine (rsame_calls v v true _ hvv).mono ?_; rintro e w1 ⟨rfl, rfl⟩))
      go_ret
      exact ⟨L.ret_bool (by first | rfl | simp [*]), HB⟩
theorem mid_walk (x y lo hi : Nat) (w : World) (w0 : (Lit.float .f64 x).wf = true) (w1 : (Lit.float .f64 y).wf = true) (w2 : (Lit.float .f64 lo).wf = true) (w3 : (Lit.float .f64 hi).wf = true) :
    Calls Try.prog 5 #[.float .f64 x, .float .f64 y, .float .f64 lo, .float .f64 hi] w fun e w' => e = .returned (.bool true) ∧ Below w.heap.size w w' := by
  have hs : less hi lo = false → same (clamp (clamp x lo hi) lo hi) (clamp x lo hi) = true := clamp_twice x lo hi
  by_cases h : 2 ≤ cls x ∧ cls x ≤ 5 ∧ 2 ≤ cls y ∧ cls y ≤ 5 ∧ ex x = true ∧ ex y = true
  · have hx := (cls_fin x).1 ⟨h.1, h.2.1⟩
    have hy := (cls_fin y).1 ⟨h.2.2.1, h.2.2.2.1⟩
    obtain ⟨v, hv, hfv, hn, hge, hle⟩ := mid_spec hx hy (ex_far hx h.2.2.2.2.1) (ex_far hy h.2.2.2.2.2)
    have nx := (W_fin hx).1
    have ny := (W_fin hy).1
    refine mid_walk_b x y lo hi _ _ v _ _ _ _ _ _ w rfl rfl rfl hs rfl rfl rfl rfl h hv rfl ((cls_fin v).2 hfv) ?_ ?_
    · rw [ge_W, ge_W, hn, nx, ny]; simpa using hge
    · rw [le_W, le_W, hn, nx, ny]; simpa using hle
  · exact mid_walk_a x y lo hi _ _ _ _ _ _ _ w rfl rfl rfl hs rfl rfl rfl rfl h
end Go.Proofs.Ytebfnmhpmgjoiaa.Fl
