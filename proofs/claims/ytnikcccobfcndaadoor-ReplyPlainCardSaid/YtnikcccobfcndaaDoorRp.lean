/- ReplyPlain: the pure part, and the walk. -/
import Derived.Test.YtnikcccobfcndaaDoorPReplyPlainx5
import Derived.Test.YtnikcccobfcndaaDoorQ
namespace Go.Proofs.YtnikcccobfcndaaDoor.PReplyPlain
open Go.RowKit Go.Proofs.YtnikcccobfcndaaDoorW.PrintWords Go.Proofs.YtnikcccobfcndaaDoor.Q
set_option linter.unusedVariables false
set_option maxRecDepth 100000 in
theorem awake_ev : sumplaw26_awake.f 100 = some true := by kernel_rfl
theorem rdt (l : List ByteArray) (i : Nat) (h : i < l.length) : rdOf ByteArray.empty l (i : Int) = l[i] := by
  unfold rdOf
  rw [Int.toNat_natCast, List.getD_eq_getElem?_getD, List.getElem?_eq_getElem h]; rfl
theorem same_self (l : List ByteArray) (hl : l.length ≤ 50) : ∀ (d i k : Nat), l.length - i = d → i ≤ l.length → d < k → sumpref01_SameTexts.l0 k l l (l.length : Int) (i : Int) = some true := by
  intro d
  induction d with
  | zero =>
    intro i k h1 h2 h3
    obtain ⟨k, rfl⟩ : ∃ m, k = m + 1 := ⟨k - 1, by omega⟩
    rw [sumpref01_SameTexts.l0, if_neg (by omega)]
  | succ d ih =>
    intro i k h1 h2 h3
    obtain ⟨k, rfl⟩ : ∃ m, k = m + 1 := ⟨k - 1, by omega⟩
    rw [sumpref01_SameTexts.l0, if_pos (by omega), if_pos (by omega), if_pos (by omega), if_pos (by omega), if_pos rfl, wrap64_in (by omega) (by omega)]
    exact ih (i + 1) k (by omega) (by omega) (by omega)
theorem equal_self (l : List ByteArray) (hl : l.length ≤ 50) : ∀ (d i k : Nat), l.length - i = d → i ≤ l.length → d < k → slices_Equal_string_string.l0 k l l (l.length : Int) (i : Int) = some true := by
  intro d
  induction d with
  | zero =>
    intro i k h1 h2 h3
    obtain ⟨k, rfl⟩ : ∃ m, k = m + 1 := ⟨k - 1, by omega⟩
    rw [slices_Equal_string_string.l0, if_neg (by omega)]
  | succ d ih =>
    intro i k h1 h2 h3
    obtain ⟨k, rfl⟩ : ∃ m, k = m + 1 := ⟨k - 1, by omega⟩
    rw [slices_Equal_string_string.l0, if_pos (by omega), if_pos (by omega), if_pos (by omega), if_pos (by omega), if_pos rfl, wrap64_in (by omega) (by omega)]
    exact ih (i + 1) k (by omega) (by omega) (by omega)
theorem plain_ev (a b c d e : Int) (x : List Int) (y : List ByteArray) (hx : x.length ≤ 300) (hy : y.length ≤ 20) :
    reply_Plain.f a b c d e x y = some (decide (a = 0 ∨ (b = 0 ∧ c = 0 ∧ d = 0 ∧ e = 0 ∧ x.length = 0 ∧ y.length = 0))) := by
  unfold reply_Plain.f reply_Fail.f reply_plain.f
  by_cases h0 : a = 0
  · rw [if_pos h0, decide_eq_true (Or.inl h0)]
  · rw [if_neg h0, Option.bind_some]
    show ((if a = a then _ else _ : Option Bool)).bind _ = _
    rw [if_pos rfl]
    by_cases h1 : b = 0
    · show ((if b = 0 then _ else _ : Option Bool)).bind _ = _
      rw [if_pos h1]
      by_cases h2 : c = 0
      · show ((if c = 0 then _ else _ : Option Bool)).bind _ = _
        rw [if_pos h2]
        by_cases h3 : d = 0
        · show ((if d = 0 then _ else _ : Option Bool)).bind _ = _
          rw [if_pos h3, Option.bind_some]
          by_cases h4 : e = 0
          · show (if (e == 0) = true then _ else _) = _
            rw [if_pos (by simpa using h4), wrap64_in (by omega) (by omega)]
            congr 1
            rw [Bool.eq_iff_iff, beq_iff_eq, decide_eq_true_iff]
            constructor
            · intro q
              exact Or.inr ⟨h1, h2, h3, h4, by omega, by omega⟩
            · rintro (q | q)
              · exact absurd q h0
              · have q5 := q.2.2.2.2.1
                have q6 := q.2.2.2.2.2
                omega
          · show (if (e == 0) = true then _ else _) = _
            rw [if_neg (by simpa using h4), decide_eq_false (by rintro (q | q); exact h0 q; exact h4 q.2.2.2.1)]
        · show ((if d = 0 then _ else _ : Option Bool)).bind _ = _
          rw [if_neg h3, Option.bind_some, if_neg Bool.false_ne_true, decide_eq_false (by rintro (q | q); exact h0 q; exact h3 q.2.2.1)]
      · show ((if c = 0 then _ else _ : Option Bool)).bind _ = _
        rw [if_neg h2, Option.bind_some, if_neg Bool.false_ne_true, decide_eq_false (by rintro (q | q); exact h0 q; exact h2 q.2.1)]
    · show ((if b = 0 then _ else _ : Option Bool)).bind _ = _
      rw [if_neg h1, Option.bind_some, if_neg Bool.false_ne_true, decide_eq_false (by rintro (q | q); exact h0 q; exact h1 q.1)]
theorem Same_self (a b c d e : Int) (x : List Int) (y : List ByteArray) (hy : y.length ≤ 20) (k : Nat) (hk : 20 < k) : reply_Same.f k a b c d e x y a b c d e x y = some true := by
  unfold reply_Same.f reply_plain.f bytes_Equal.f slices_Equal_string_string.f
  rw [if_pos rfl, if_pos rfl, if_pos rfl, if_pos rfl, Option.bind_some, if_pos (by simp), Option.bind_some, if_pos (by simp), if_pos rfl]
  have := equal_self y (by omega) y.length 0 k (by omega) (by omega) (by omega)
  rw [show ((0 : Nat) : Int) = 0 from rfl] at this
  rw [this]; rfl
theorem j1_ev (e a b c d f : Int) (x : List Int) (y : List ByteArray) (hx : x.length ≤ 300) (hy : y.length ≤ 20) (k : Nat) (hk : 50 < k) :
    sumplaw26_ReplyPlain.j1 k e (decide (b = 0 ∧ c = 0 ∧ d = 0 ∧ f = 0 ∧ x.length = 0 ∧ y.length = 0)) a b c d f x y e 0 0 0 0 [] [] = some true := by
  obtain ⟨k, rfl⟩ : ∃ m, k = m + 1 := ⟨k - 1, by omega⟩
  have hs := same_self y (by omega) y.length 0 k (by omega) (by omega) (by omega)
  have hs2 : sumpref01_SameTexts.f k y y = some true := by unfold sumpref01_SameTexts.f; rw [if_pos rfl]; exact hs
  rw [sumplaw26_ReplyPlain.j1, if_pos rfl, plain_ev e 0 0 0 0 [] [] (by simp) (by simp), Option.bind_some, if_pos (by simp), plain_ev a b c d f x y hx hy, Option.bind_some]
  by_cases h0 : a = 0
  · rw [if_pos h0, decide_eq_true (Or.inl h0), if_pos (show (true == true) = true from rfl), Same_self a b c d f x y hy k (by omega), Option.bind_some, if_pos rfl, hs2]; rfl
  · have hd : decide (a = 0 ∨ (b = 0 ∧ c = 0 ∧ d = 0 ∧ f = 0 ∧ x.length = 0 ∧ y.length = 0)) = decide (b = 0 ∧ c = 0 ∧ d = 0 ∧ f = 0 ∧ x.length = 0 ∧ y.length = 0) := by
      rw [decide_eq_decide]; exact ⟨fun q => q.resolve_left h0, Or.inr⟩
    rw [if_neg h0, hd, if_pos (by simp), Same_self a b c d f x y hy k (by omega), Option.bind_some, if_pos rfl, hs2]; rfl
theorem law (a b c d f : Int) (x : List Int) (y : List ByteArray) (e : Int) : ∃ k, sumplaw26_ReplyPlain.f k a b c d f x y e = some true := by
  refine ⟨100, ?_⟩
  have ht : sumplaw26_ReplyPlain.j0 100 e true a b c d f x y = some true := by
    show sumplaw26_ReplyPlain.j0 (99 + 1) e true a b c d f x y = some true
    rw [sumplaw26_ReplyPlain.j0, if_pos rfl]
  unfold sumplaw26_ReplyPlain.f
  rw [awake_ev, Option.bind_some, if_pos rfl]
  by_cases h1 : 300 < x.length
  · rw [if_pos (by omega)]; exact ht
  · rw [if_neg (by omega)]
    by_cases h2 : 20 < y.length
    · rw [decide_eq_true (by omega)]; exact ht
    · rw [decide_eq_false (by omega)]
      have hj := j1_ev e a b c d f x y (by omega) (by omega) 99 (by omega)
      show sumplaw26_ReplyPlain.j0 (99 + 1) e false a b c d f x y = some true
      rw [sumplaw26_ReplyPlain.j0, if_neg Bool.false_ne_true]
      unfold reply_Fail.f
      rw [Option.bind_some]
      by_cases c1 : b = 0
      · rw [if_pos c1]
        by_cases c2 : c = 0
        · rw [if_pos c2]
          by_cases c3 : d = 0
          · rw [if_pos c3]
            by_cases c4 : f = 0
            · rw [if_pos c4]
              by_cases c5 : (x.length : Int) = 0
              · rw [if_pos c5]
                have e1 : ((y.length : Int) == 0) = decide (b = 0 ∧ c = 0 ∧ d = 0 ∧ f = 0 ∧ x.length = 0 ∧ y.length = 0) := by
                  rw [Bool.eq_iff_iff, beq_iff_eq, decide_eq_true_iff]
                  exact ⟨fun q => ⟨c1, c2, c3, c4, by omega, by omega⟩, fun q => by have := q.2.2.2.2.2; omega⟩
                rw [e1]; exact hj
              · rw [if_neg c5]
                rw [decide_eq_false (by rintro ⟨_, _, _, _, q, _⟩; omega)] at hj; exact hj
            · rw [if_neg c4]
              rw [decide_eq_false (by rintro ⟨_, _, _, q, _, _⟩; exact c4 q)] at hj; exact hj
          · rw [if_neg c3]
            rw [decide_eq_false (by rintro ⟨_, _, q, _, _, _⟩; exact c3 q)] at hj; exact hj
        · rw [if_neg c2]
          rw [decide_eq_false (by rintro ⟨_, q, _, _, _, _⟩; exact c2 q)] at hj; exact hj
      · rw [if_neg c1]
        rw [decide_eq_false (by rintro ⟨q, _, _, _, _, _⟩; exact c1 q)] at hj; exact hj
def G26 (x : S26) : Prop := (Lit.int .i64 x.f0).wf = true ∧ (Lit.int .i64 x.f1).wf = true ∧ (Lit.int .i64 x.f2).wf = true ∧ (Lit.int .i64 x.f3).wf = true ∧ (Lit.int .i64 x.f4).wf = true ∧ (x.f5.length ≤ maxLen ∧ ∀ y2 ∈ x.f5, (Lit.int .u8 y2).wf = true) ∧ (x.f6.length ≤ maxLen ∧ ∀ y1 ∈ x.f6, y1.size ≤ maxLen)
instance : Inhabited S26 := ⟨z26⟩
theorem walkReplyPlain (x0 : S26) (cs0 : List Value) (a1 : Int) (w : World) (K0 : k26.K w x0 cs0) (g0 : G26 x0) (w1 : (Lit.int .i64 a1).wf = true) :
    Calls Tryd.prog 4 #[.agg cs0.toArray, .int .i64 a1] w fun e w' => e = .returned (.bool true) ∧ Below w.heap.size w w' := by
  obtain ⟨A5, c5, A6, c6, rfl, l5, h5, l6, h6⟩ := k26_open K0
  obtain ⟨k, hk⟩ := law x0.f0 x0.f1 x0.f2 x0.f3 x0.f4 x0.f5 x0.f6 a1
  exact sumplaw26_ReplyPlain.calls k x0.f0 x0.f1 x0.f2 x0.f3 x0.f4 A5 c5 x0.f5 A6 c6 x0.f6 a1 true w h5 l5 h6 l6 hk rfl
end Go.Proofs.YtnikcccobfcndaaDoor.PReplyPlain
