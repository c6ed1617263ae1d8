/- the meter: the law MeterRises. -/
import Derived.Test.YtebfnmhpmgjoiaaMg
namespace Go.Proofs.Ytebfnmhpmgjoiaa.Fl
open Go.RowKit FT SM Go.Proofs.YtebfnmhpmgjoiaaW.PrintWords Go.Proofs.YtebfnmhpmgjoiaaW.PrintMore
set_option linter.unusedVariables false
set_option linter.unusedSimpArgs false
theorem sum_range_one (m k : Nat) (hk : k < m) : ((List.range m).map fun j => if k == j then (1 : Int) else 0).sum = 1 := by
  induction m with
  | zero => omega
  | succ m ih =>
    rw [List.range_succ, List.map_append, List.sum_append]
    by_cases e : k = m
    · subst e
      have z : ((List.range k).map fun j => if k == j then (1 : Int) else 0).sum = 0 := by
        have : ((List.range k).map fun j => if k == j then (1 : Int) else 0) = (List.range k).map fun _ => (0 : Int) := List.map_congr_left fun j hj => by
          have := List.mem_range.1 hj
          rw [if_neg (by simp; omega)]
        rw [this]
        clear this ih hk
        induction (List.range k) with
        | nil => rfl
        | cons a t ih => simpa using ih
      rw [z]; simp
    · rw [ih (by omega)]; simp [e]
theorem sum_add (L : List Nat) (f g : Nat → Int) : (L.map fun j => f j + g j).sum = (L.map f).sum + (L.map g).sum := by
  induction L with
  | nil => rfl
  | cons a t ih => simp only [List.map_cons, List.sum_cons, ih]; omega
theorem cnts_sum (m : Nat) (q : Nat → Nat) (l : List Nat) (h : ∀ x ∈ l, q x < m) : (cnts m q l).sum = (l.length : Int) := by
  induction l with
  | nil => rw [cnts_nil]; simp
  | cons x t ih =>
    have e : cnts m q (x :: t) = (List.range m).map fun k => (if q x == k then (1 : Int) else 0) + (((t.countP (fun y => q y == k) : Nat)) : Int) := by
      unfold cnts
      refine List.map_congr_left fun k hk => ?_
      rw [List.countP_cons]
      split <;> simp_all <;> omega
    rw [e, sum_add, sum_range_one m (q x) (h x (by simp))]
    have := ih (fun y hy => h y (by simp [hy]))
    unfold cnts at this
    rw [this]
    simp; omega
theorem sum_take (d : List Int) (i : Nat) (h : i < d.length) : (d.take (i + 1)).sum = (d.take i).sum + d.getD i 0 := by
  rw [List.take_succ_eq_append_getElem h, List.sum_append, List.getD_eq_getElem?_getD, List.getElem?_eq_getElem h]
  simp
theorem sum_take_le (d : List Int) (h : ∀ x ∈ d, 0 ≤ x) (i : Nat) : 0 ≤ (d.take i).sum ∧ (d.take i).sum ≤ d.sum := by
  have e : d.sum = (d.take i).sum + (d.drop i).sum := by rw [← List.sum_append, List.take_append_drop]
  have key : ∀ L : List Int, (∀ x ∈ L, 0 ≤ x) → 0 ≤ L.sum := by
    intro L
    induction L with
    | nil => intro _; simp
    | cons a t ih =>
      intro hL
      have := ih (fun x hx => hL x (by simp [hx]))
      have := hL a (by simp)
      rw [List.sum_cons]; omega
  have h1 := key (d.take i) (fun x hx => h x (List.mem_of_mem_take hx))
  have h2 := key (d.drop i) (fun x hx => h x (List.mem_of_mem_drop hx))
  omega
theorem cnts_pos (m : Nat) (q : Nat → Nat) (l : List Nat) : ∀ x ∈ cnts m q l, 0 ≤ x := by
  intro x hx
  unfold cnts at hx
  obtain ⟨k, _, rfl⟩ := List.mem_map.1 hx
  omega
theorem rank_mono {l : List Nat} {x y : Nat} (h : less x y = true) : rank l x ≤ rank l y := by
  unfold rank
  exact List.countP_mono_left fun z _ hz => less_trans hz h
theorem rank_le (l : List Nat) (x : Nat) : rank l x ≤ l.length := List.countP_le_length
/-- Parts rise. -/
theorem part_rises {M L l : List Nat} (hM : M.Perm l) (hL : L.Perm l) (sM : Sd less M) (sL : Sd less L) {i j a b : Nat} (hij : i ≤ j) (ha : M[i]? = some a) (hb : L[j]? = some b) : less b a = false := by
  obtain ⟨hi, rfl⟩ := List.getElem?_eq_some_iff.1 ha
  obtain ⟨hj, rfl⟩ := List.getElem?_eq_some_iff.1 hb
  have hp := hM.trans hL.symm
  have hlen := hp.length_eq
  have hs := sorted_same less_SW M L hp sM sL i hi (by omega)
  rw [same_less' L[j] (same_of hs.1 hs.2)]
  rcases Nat.lt_or_ge i j with h | h
  · exact List.pairwise_iff_getElem.1 sL i j (by omega) hj h
  · obtain rfl : i = j := by omega
    exact less_irr _
theorem qix_mono {n : Nat} {num den : Int} (h0 : 0 ≤ num) (h1 : 0 < den) : qix n num den ≤ qix n (num + 1) den := by
  unfold qix
  exact Nat.div_le_div_right (Nat.mul_le_mul_right _ (by omega))
theorem mayq_both {n : Nat} {num den : Int} (h0 : 0 ≤ num) (h1 : num < den) (h2 : den ≤ 1000) : mayq n num den = decide (0 < n) ∧ mayq n (num + 1) den = decide (0 < n) := by
  unfold mayq
  rw [decide_eq_true (show 1 ≤ den by omega), decide_eq_true h2, decide_eq_true h0, decide_eq_true (show num ≤ den by omega), decide_eq_true (show 0 ≤ num + 1 by omega), decide_eq_true (show num + 1 ≤ den by omega)]
  simp
theorem few_any (A : Option Addr) (n c : Nat) (w : World) : Calls Try.prog 28 #[.slice A n c] w fun e w' => e = .returned (.bool (decide ((n : Int) ≤ 40))) ∧ w = w' := few3_calls A n c _ w rfl
set_option maxHeartbeats 4000000 in
theorem rises_no (A B : Option Addr) (n c m cb x y : Nat) (num den : Int) (w : World) (h : ¬ (n ≤ 40 ∧ m ≤ 40 ∧ 0 ≤ num ∧ num < den ∧ den ≤ 1000)) : Calls Try.prog 7 #[.slice A n c, .slice B m cb, .float .f64 x, .float .f64 y, .int .i64 num, .int .i64 den] w fun e w' => e = .returned (.bool true) ∧ Below w.heap.size w w' := by
  obtain ⟨p, hp⟩ : ∃ p, decide ((n : Int) ≤ 40) = p := ⟨_, rfl⟩
  obtain ⟨q, hq⟩ : ∃ q, decide ((m : Int) ≤ 40) = q := ⟨_, rfl⟩
  have F1 := hid (fun W => few3_calls A n c p W hp)
  have F2 := hid (fun W => few3_calls B m cb q W hq)
  have hk : p = false ∨ (p = true ∧ q = false) ∨ (p = true ∧ q = true ∧ decide (num < 0) = true) ∨ (p = true ∧ q = true ∧ decide (num < 0) = false ∧ decide (den ≤ num) = true) ∨ (p = true ∧ q = true ∧ decide (num < 0) = false ∧ decide (den ≤ num) = false ∧ decide (1000 < den) = true) := by
    rw [← hp, ← hq]
    simp only [decide_eq_true_eq, decide_eq_false_iff_not]
    omega
  clear h hp hq
  rcases hk with rfl | ⟨rfl, rfl⟩ | ⟨rfl, rfl, b1⟩ | ⟨rfl, rfl, b1, b2⟩ | ⟨rfl, rfl, b1, b2, b3⟩
  all_goals
    go_enter Try.func7, Try.ntmps7
    go_wp2_with (first
      | (go_at_call 27; with_reducible refine (awake3_calls _).mono ?_; rintro e w1 ⟨rfl, h1⟩; have H1 := hid h1; clear h1)
      | (go_at_call 28; with_reducible refine (F1.out _).mono ?_; rintro e w2 ⟨rfl, rfl⟩)
      | (go_at_call 28; with_reducible refine (F2.out _).mono ?_; rintro e w2 ⟨rfl, rfl⟩))
    go_ret
    exact ⟨rfl, H1.out⟩
def QP (l : List Nat) (num den : Int) (a : Nat) : Prop := (l.length = 0 → a = 0) ∧ (0 < l.length → ∃ M, M.Perm l ∧ Sd less M ∧ M[qix l.length num den]? = some a)
theorem quant_calls (A : Option Addr) (l : List Nat) (c : Nat) (num den : Int) (w : World) (hv : Vw w A l) (hl : l.length ≤ 40) (z : Bool) (hm : mayq l.length num den = z) (hz : decide (0 < l.length) = z) : Calls Try.prog 31 #[.slice A l.length c, .int .i64 num, .int .i64 den] w fun e w' => ∃ q, e = .returned (.tuple #[.float .f64 q, .bool z]) ∧ Hid (QP l num den q) ∧ Hid (Below w.heap.size w w') := by
  cases z with
  | false =>
    refine (quant_no A l.length c num den w hm).mono ?_
    rintro e w' ⟨h1, rfl⟩
    have := of_decide_eq_false hz
    exact ⟨0, h1, hid ⟨fun _ => rfl, fun h => absurd h (by omega)⟩, hid (Below.refl _ _)⟩
  | true =>
    refine (quant_some A l c num den w hv hl hm).mono ?_
    rintro e w' ⟨M, q, h1, h2, h3, h4, h5⟩
    have := of_decide_eq_true hz
    exact ⟨q, h1, hid ⟨fun h => absurd h (by omega), fun _ => ⟨M, h2, h3, h4⟩⟩, hid h5⟩
theorem QP.less {l : List Nat} {num den : Int} {a b : Nat} (h0 : 0 ≤ num) (h1 : num < den) (ha : QP l num den a) (hb : QP l (num + 1) den b) : less b a = false := by
  rcases Nat.eq_zero_or_pos l.length with h | h
  · rw [ha.1 h, hb.1 h]; exact less_irr _
  · obtain ⟨M, m1, m2, m3⟩ := ha.2 h
    obtain ⟨L, l1, l2, l3⟩ := hb.2 h
    exact part_rises m1 l1 m2 l2 (qix_mono h0 (by omega)) m3 l3
set_option maxHeartbeats 8000000 in
theorem rises_main (A B : Option Addr) (l ed : List Nat) (c cb x y : Nat) (num den : Int) (w : World) (hv : Vw w A l) (he : Vw w B ed) (hl : l.length ≤ 40) (hel : ed.length ≤ 40) (h0 : 0 ≤ num) (h1 : num < den) (h2 : den ≤ 1000) : Calls Try.prog 7 #[.slice A l.length c, .slice B ed.length cb, .float .f64 x, .float .f64 y, .int .i64 num, .int .i64 den] w fun e w' => e = .returned (.bool true) ∧ Below w.heap.size w w' := by
  obtain ⟨n, hn⟩ : ∃ n, l.length = n := ⟨_, rfl⟩
  obtain ⟨m, hm⟩ : ∃ m, ed.length = m := ⟨_, rfl⟩
  obtain ⟨m1, hm1⟩ : ∃ m1, m + 1 = m1 := ⟨_, rfl⟩
  obtain ⟨z, hz⟩ : ∃ z, decide (0 < l.length) = z := ⟨_, rfl⟩
  obtain ⟨N1, hN1⟩ : ∃ N1, num + 1 = N1 := ⟨_, rfl⟩
  have mq := mayq_both (n := l.length) h0 h1 h2
  rw [hz, hN1] at mq
  have CQ1 : Hid (∀ W, Hid (Vw W A l) → Calls Try.prog 31 #[.slice A n c, .int .i64 num, .int .i64 den] W fun e w' => ∃ q, e = .returned (.tuple #[.float .f64 q, .bool z]) ∧ Hid (QP l num den q) ∧ Hid (Below W.heap.size W w')) := hid fun W h => by rw [← hn]; exact quant_calls A l c num den W h.out hl z mq.1 hz
  have CQ2 : Hid (∀ W, Hid (Vw W A l) → Calls Try.prog 31 #[.slice A n c, .int .i64 N1, .int .i64 den] W fun e w' => ∃ q, e = .returned (.tuple #[.float .f64 q, .bool z]) ∧ Hid (QP l N1 den q) ∧ Hid (Below W.heap.size W w')) := hid fun W h => by rw [← hn]; exact quant_calls A l c N1 den W h.out hl z mq.2 hz
  have CLS : Hid (∀ a b, Hid (QP l num den a) → Hid (QP l N1 den b) → ∀ W, Calls Try.prog 11 #[.float .f64 b, .float .f64 a] W fun e w' => e = .returned (.bool false) ∧ W = w') := hid fun a b ha hb W => less_calls b a false W (QP.less h0 h1 ha.out (by rw [hN1]; exact hb.out))
  have CBo : Hid (∀ W, Hid (Vw W A l ∧ Vw W B ed) → Calls Try.prog 29 #[.slice A n c, .slice B m cb] W fun e W' => ∃ g D, e = .returned (.slice (some ⟨g, 0, none⟩) m1 m1) ∧ Hid (Ri W' g 3 D ∧ D.length = m1 ∧ D.sum = (n : Int) ∧ ∀ v ∈ D, 0 ≤ v) ∧ Hid (Below W.heap.size W W')) := hid fun W h => by
    have q1 := boxes_calls A B l ed c cb W h.out.1 h.out.2 hl hel
    rw [hn, hm] at q1
    refine q1.mono ?_
    rintro e W' ⟨g, M, e1, e2, e3, e4, e5, e6⟩
    have hml : M.length + 1 = m1 := by rw [e2.length_eq, hm, hm1]
    refine ⟨g, _, by rw [e1, hml], hid ⟨e4, by rw [cnts_len, hml], ?_, cnts_pos _ _ _⟩, hid e6⟩
    rw [cnts_sum _ _ _ (fun v _ => Nat.lt_succ_of_le (bx_le M v)), hn]
  obtain ⟨rx, hrx⟩ : ∃ rx : Int, ((rank l x : Nat) : Int) = rx := ⟨_, rfl⟩
  obtain ⟨ry, hry⟩ : ∃ ry : Int, ((rank l y : Nat) : Int) = ry := ⟨_, rfl⟩
  have CRx : Hid (∀ W, Hid (Vw W A l) → Calls Try.prog 30 #[.slice A n c, .float .f64 x] W fun e W' => e = .returned (.int .i64 rx) ∧ W = W') := hid fun W h => by rw [← hn, ← hrx]; exact rank_calls A l c x W h.out (by omega)
  have CRy : Hid (∀ W, Hid (Vw W A l) → Calls Try.prog 30 #[.slice A n c, .float .f64 y] W fun e W' => e = .returned (.int .i64 ry) ∧ W = W') := hid fun W h => by rw [← hn, ← hry]; exact rank_calls A l c y W h.out (by omega)
  have bx1 : decide ((n : Int) < rx) = false := decide_eq_false (by have := rank_le l x; omega)
  obtain ⟨s, hs⟩ : ∃ s, less x y = s := ⟨_, rfl⟩
  have HBX : Hid (s = true → decide (ry < rx) = false) := hid fun h => decide_eq_false (by have := rank_mono (l := l) (hs.trans h); omega)
  have CS := hid (fun W => less_calls x y s W hs)
  have HV := hid hv
  have HE := hid he
  have F40 : Hid (∀ W, Calls Try.prog 28 #[.slice A n c] W fun e w' => e = .returned (.bool true) ∧ W = w') := hid fun W => few3_calls A n c true W (decide_eq_true (by omega))
  have G40 : Hid (∀ W, Calls Try.prog 28 #[.slice B m cb] W fun e w' => e = .returned (.bool true) ∧ W = w') := hid fun W => few3_calls B m cb true W (decide_eq_true (by omega))
  have b1 : decide (num < 0) = false := decide_eq_false (by omega)
  have b2 : decide (den ≤ num) = false := decide_eq_false (by omega)
  have b3 : decide (1000 < den) = false := decide_eq_false (by omega)
  have w3 : wrap64 (num + 1) = N1 := by rw [← hN1]; exact wrap_small _ (by omega) (by omega)
  have z1 : decide (0 < n) = z := by rw [← hn]; exact hz
  have z2 : decide ((0 : Int) < (n : Int)) = z := by rw [← z1]; exact decide_eq_decide.2 (by omega)
  have z3 : (z == z) = true := beq_self_eq_true z
  have n3 : ((n : Int) != (n : Int)) = false := bne_self_eq_false _
  have HN := hid (show l.length = n ∧ n ≤ 40 ∧ m ≤ 40 ∧ m + 1 = m1 from ⟨hn, by omega, by omega, hm1⟩)
  rw [hn, hm]
  clear hv he hl hel hn hm hm1 hz mq hN1 h0 h1 h2 hrx hry hs
  go_enter Try.func7, Try.ntmps7
  go_wp2_with (first
    | (go_at_call 27; with_reducible refine (awake3_calls _).mono ?_; rintro e wA ⟨rfl, h1⟩; have H1 := hid h1; clear h1; have HVE := hid (And.intro (HV.out.below H1.out) (HE.out.below H1.out)))
    | (go_at_call 28; with_reducible refine (F40.out _).mono ?_; rintro e w2 ⟨rfl, rfl⟩)
    | (go_at_call 28; with_reducible refine (G40.out _).mono ?_; rintro e w2 ⟨rfl, rfl⟩)
    | (go_at_call 29; with_reducible refine (CBo.out _ HVE).mono ?_; rintro e wB ⟨g, D, rfl, HD, HB⟩; have HVB := hid (HVE.out.1.below HB.out)))
  clear F40 G40 CBo
  go_loopg [13, 47] (m1 + 1) (fun kq v13 v47 w' => ∃ i : Nat, v13 = .int .i64 (D.take i).sum ∧ v47 = .int .i64 (i : Int) ∧ Hid (i + kq = m1 + 1 ∧ i ≤ m1) ∧ Hid (w' = wB))
  case atStart => exact ⟨0, rfl, rfl, hid ⟨by omega, by omega⟩, hid rfl⟩
  case round =>
    obtain ⟨i, rfl, rfl, HK, HW⟩ := hrel
    obtain rfl := HW.out
    cases gk with
    | zero => exact absurd HK.out.1 (by have := HK.out; omega)
    | succ k1 =>
      obtain ⟨II, hII⟩ : ∃ II : Int, (i : Int) = II := ⟨_, rfl⟩
      rw [hII]
      obtain ⟨SI, hSI⟩ : ∃ SI : Int, (D.take i).sum = SI := ⟨_, rfl⟩
      rw [hSI]
      by_cases ci : i < m1
      · have b4 : decide (II < (m1 : Int)) = true := decide_eq_true (by omega)
        have hsum := sum_take D i (by rw [HD.out.2.1]; exact ci)
        have hb1 := sum_take_le D HD.out.2.2.2 (i + 1)
        obtain ⟨q, hq⟩ : ∃ q, D.getD i 0 = q := ⟨_, rfl⟩
        have c1 := HD.out.1.cell i (by rw [HD.out.2.1]; exact ci)
        rw [hq] at c1 hsum
        rw [hSI] at hsum
        rw [HD.out.2.2.1] at hb1
        have t1 : II.toNat = i := by omega
        have p1 : 0 ≤ II := by omega
        have p2 : II < (m1 : Int) := by omega
        have HCI : Hid (i + 1 ≤ m1) := hid ci
        have HW1 : Hid (wrap64 (II + 1) = ((i + 1 : Nat) : Int)) := hid (by have := HN.out; rw [wrap_small _ (by omega) (by omega)]; omega)
        have HW2 : Hid (wrap64 (SI + q) = (D.take (i + 1)).sum) := hid (by have := HN.out; rw [hsum] at hb1 ⊢; exact wrap_small _ (by omega) (by omega))
        clear hII ci hSI hsum hb1 hq
        go_wp2
        go_roundg k1
        case measure => omega
        case rel => exact ⟨i + 1, congrArg (Value.int .i64) HW2.out, congrArg (Value.int .i64) HW1.out, hid ⟨by have := HK.out; omega, HCI.out⟩, hid rfl⟩
      · have b4 : decide (II < (m1 : Int)) = false := decide_eq_false (by omega)
        have hE : SI = (n : Int) := by rw [← hSI, List.take_of_length_le (by rw [HD.out.2.1]; have := HK.out; omega)]; exact HD.out.2.2.1
        subst hE
        clear hII ci hSI
        cases s with
        | false =>
          cases z
          all_goals
            go_wp2_with (first
              | (go_at_call 11; with_reducible refine (CS.out _).mono ?_; rintro e w2 ⟨rfl, rfl⟩)
              | (go_at_call 30; with_reducible refine (CRx.out _ HVB).mono ?_; rintro e w2 ⟨rfl, rfl⟩)
              | (go_at_call 31; with_reducible refine (CQ1.out _ HVB).mono ?_; rintro e wC ⟨qa, rfl, HQ1, HB1⟩; have HVC := hid (HVB.out.below HB1.out))
              | (go_at_call 31; with_reducible refine (CQ2.out _ HVC).mono ?_; rintro e wD ⟨qb, rfl, HQ2, HB2⟩)
              | (go_at_call 11; with_reducible refine (CLS.out _ _ HQ1 HQ2 _).mono ?_; rintro e w2 ⟨rfl, rfl⟩))
            go_ret
            exact ⟨by first | rfl | (simp; done), L.bel (L.bel (L.bel H1.out HB.out) HB1.out) HB2.out⟩
        | true =>
          have b5 := HBX.out rfl
          cases z
          all_goals
            go_wp2_with (first
              | (go_at_call 11; with_reducible refine (CS.out _).mono ?_; rintro e w2 ⟨rfl, rfl⟩)
              | (go_at_call 30; with_reducible refine (CRx.out _ HVB).mono ?_; rintro e w2 ⟨rfl, rfl⟩)
              | (go_at_call 30; with_reducible refine (CRy.out _ HVB).mono ?_; rintro e w2 ⟨rfl, rfl⟩)
              | (go_at_call 31; with_reducible refine (CQ1.out _ HVB).mono ?_; rintro e wC ⟨qa, rfl, HQ1, HB1⟩; have HVC := hid (HVB.out.below HB1.out))
              | (go_at_call 31; with_reducible refine (CQ2.out _ HVC).mono ?_; rintro e wD ⟨qb, rfl, HQ2, HB2⟩)
              | (go_at_call 11; with_reducible refine (CLS.out _ _ HQ1 HQ2 _).mono ?_; rintro e w2 ⟨rfl, rfl⟩))
            go_ret
            exact ⟨by first | rfl | (simp; done), L.bel (L.bel (L.bel H1.out HB.out) HB1.out) HB2.out⟩
theorem walkMeterRises (A0 : Option Addr) (c0 : Nat) (l0 : (List Nat)) (A1 : Option Addr) (c1 : Nat) (l1 : (List Nat)) (a2 : Nat) (a3 : Nat) (a4 : Int) (a5 : Int) (w : World) (hl0 : l0.length ≤ c0) (hr0 : Kd.C (FK.kf .f64) w A0 l0.length l0) (g0 : (l0.length ≤ maxLen ∧ ∀ y1 ∈ l0, (Lit.float .f64 y1).wf = true)) (y0 : l0.length * 8 ≤ 140737488351232) (hl1 : l1.length ≤ c1) (hr1 : Kd.C (FK.kf .f64) w A1 l1.length l1) (g1 : (l1.length ≤ maxLen ∧ ∀ y2 ∈ l1, (Lit.float .f64 y2).wf = true)) (y1 : l1.length * 8 ≤ 140737488351232) (w2 : (Lit.float .f64 a2).wf = true) (w3 : (Lit.float .f64 a3).wf = true) (w4 : (Lit.int .i64 a4).wf = true) (w5 : (Lit.int .i64 a5).wf = true) :
    Calls Try.prog 7 #[.slice A0 l0.length c0, .slice A1 l1.length c1, .float .f64 a2, .float .f64 a3, .int .i64 a4, .int .i64 a5] w fun e w' => e = .returned (.bool true) ∧ Below w.heap.size w w' := by
  by_cases h : l0.length ≤ 40 ∧ l1.length ≤ 40 ∧ 0 ≤ a4 ∧ a4 < a5 ∧ a5 ≤ 1000
  · exact rises_main A0 A1 l0 l1 c0 c1 a2 a3 a4 a5 w (vw_of hr0) (vw_of hr1) h.1 h.2.1 h.2.2.1 h.2.2.2.1 h.2.2.2.2
  · exact rises_no A0 A1 _ c0 _ c1 a2 a3 a4 a5 w h
end Go.Proofs.Ytebfnmhpmgjoiaa.Fl
