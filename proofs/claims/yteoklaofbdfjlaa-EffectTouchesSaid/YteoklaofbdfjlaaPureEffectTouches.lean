/- EffectTouches: the pure part: which of any effects touch a node, the last one, and how many pages they write. -/
import Derived.Test.YteoklaofbdfjlaaPEffectTouchesx7
import Derived.Test.YteoklaofbdfjlaaQ
namespace Go.Proofs.Yteoklaofbdfjlaa.PEffectTouches
open Go.RowKit Go.Proofs.YteoklaofbdfjlaaW.PrintWords Go.Proofs.YteoklaofbdfjlaaW.PrintLast Go.Proofs.YteoklaofbdfjlaaW.PrintMore
set_option linter.unusedVariables false
def la (l : List S24) (ino : Int) : Nat → Int × Bool
  | 0 => (0, false)
  | i + 1 => if (rd_T24 l (i : Int)).f1 = ino then ((i : Int), true) else la l ino i
def pg (l : List S24) : Nat → Int
  | 0 => 0
  | i + 1 => if (rd_T24 l (i : Int)).f0 = 7 then wrap64 (pg l i + 1) else pg l i
theorem succ_w (i : Nat) (h : i ≤ 1000000) : wrap64 ((i : Int) + 1) = ((i + 1 : Nat) : Int) := by rw [Q.wrap64_in (by omega) (by omega)]; omega
theorem last_ev (l : List S24) (ino : Int) (hl : l.length ≤ 1000000) : ∀ i : Nat, i ≤ l.length → Ev (fun k => effect_Last.l0 k l ino ((i : Int) - 1)) (la l ino i)
  | 0, _ => Ev.step (fun k => by rw [effect_Last.l0, if_neg (by omega)]; rfl) (Ev.now _)
  | i + 1, h => by
    have ih := last_ev l ino hl i (by omega)
    have e : (((i + 1 : Nat) : Int) - 1) = (i : Int) := by omega
    have w : wrap64 ((i : Int) - 1) = (i : Int) - 1 := Q.wrap64_in (by omega) (by omega)
    rw [e]
    unfold la
    by_cases c : (rd_T24 l (i : Int)).f1 = ino
    · rw [if_pos c]
      refine Ev.step (f := fun _ => some ((i : Int), true)) (fun k => ?_) (Ev.now _)
      unfold effect_Last.l0 effect_Touches.f
      rw [if_pos (by omega), if_pos (by omega), if_pos (by omega), Option.bind_some, if_pos (by simpa using c)]
    · rw [if_neg c]
      refine Ev.step (fun k => ?_) ih
      rw [effect_Last.l0]
      unfold effect_Touches.f
      rw [if_pos (by omega), if_pos (by omega), if_pos (by omega), Option.bind_some, if_neg (by simpa using c), w]
theorem pages_ev (l : List S24) (hl : l.length ≤ 1000000) (d : Nat) : ∀ i : Nat, i ≤ l.length → l.length - i = d → Ev (fun k => effect_Pages.l0 k (pg l i) l (l.length : Int) (i : Int)) (pg l l.length) := by
  induction d with
  | zero =>
    intro i h1 hd
    obtain rfl : i = l.length := by omega
    exact Ev.step (fun k => by rw [effect_Pages.l0, if_neg (by omega)]) (Ev.now _)
  | succ d ih =>
    intro i h1 hd
    have q := ih (i + 1) (by omega) (by omega)
    refine Ev.step (fun k => ?_) q
    have w := succ_w i (by omega)
    rw [effect_Pages.l0, if_pos (by omega), if_pos (by omega), if_pos (by omega), w, pg]
    by_cases c : (rd_T24 l (i : Int)).f0 = 7
    · rw [if_pos c, if_pos c]
    · rw [if_neg c, if_neg c]
theorem few_ev (l : List S24) (hl : l.length ≤ 9223372036854775807) (d : Nat) : ∀ (j : Nat), j ≤ l.length → l.length - j = d →
    ∃ b, Ev (fun k => sumplaw09_Few.l0 k l l (l.length : Int) (j : Int)) b ∧ (b = true → l.length ≤ 30) := by
  induction d with
  | zero =>
    intro j h1 hd
    obtain rfl : j = l.length := by omega
    exact ⟨_, Ev.step (fun k => by rw [sumplaw09_Few.l0, if_neg (by omega)]) (Ev.now _), fun h => by have := of_decide_eq_true h; omega⟩
  | succ d ih =>
    intro j h1 hd
    have w : wrap64 ((j : Int) + 1) = ((j + 1 : Nat) : Int) := by rw [Q.wrap64_in (by omega) (by omega)]; omega
    obtain ⟨b, hb, hbt⟩ := ih (j + 1) (by omega) (by omega)
    by_cases c1 : ((rd_T24 l (j : Int)).f8.length : Int) > 300
    · exact ⟨false, Ev.step (fun k => by rw [sumplaw09_Few.l0, if_pos (by omega), if_pos (by omega), if_pos (by omega), if_pos c1]) (Ev.now _), fun h => by cases h⟩
    by_cases c2 : ((rd_T24 l (j : Int)).f6.size : Int) > 100
    · exact ⟨false, Ev.step (fun k => by rw [sumplaw09_Few.l0, if_pos (by omega), if_pos (by omega), if_pos (by omega), if_neg c1, if_pos c2]) (Ev.now _), fun h => by cases h⟩
    by_cases c3 : ((rd_T24 l (j : Int)).f7.size : Int) > 100
    · exact ⟨false, Ev.step (fun k => by rw [sumplaw09_Few.l0, if_pos (by omega), if_pos (by omega), if_pos (by omega), if_neg c1, if_neg c2, if_pos c3]) (Ev.now _), fun h => by cases h⟩
    exact ⟨b, Ev.step (fun k => by rw [sumplaw09_Few.l0, if_pos (by omega), if_pos (by omega), if_pos (by omega), if_neg c1, if_neg c2, if_neg c3, w]) hb, hbt⟩
theorem awake_true : sumplaw09_awake.f 5 = some true := by decide +kernel
theorem law_ev (l : List S24) (ino : Int) (hl : l.length ≤ 1000) (d : Nat) : ∀ i : Nat, i ≤ l.length → l.length - i = d →
    Ev (fun k => sumplaw09_EffectTouches.l0 k l ino (la l ino i).1 (la l ino i).2 (pg l i) l (l.length : Int) (i : Int)) true := by
  induction d with
  | zero =>
    intro i h1 hd
    obtain rfl : i = l.length := by omega
    refine Ev.step (f := fun k => ((effect_Last.f k l ino).bind fun bt139 => (if bt139.1 = (la l ino l.length).1 then (if (bt139.2 == (la l ino l.length).2) = true then ((effect_Pages.f k l).bind fun t141 => (some (t141 == pg l l.length))) else (some false)) else (some false)))) (fun k => by rw [sumplaw09_EffectTouches.l0, if_neg (by omega)]) ?_
    have h1 := last_ev l ino (by omega) l.length (Nat.le_refl _)
    have hw : wrap64 ((l.length : Int) - 1) = (l.length : Int) - 1 := Q.wrap64_in (by omega) (by omega)
    have h2 := pages_ev l (by omega) l.length 0 (by omega) (by omega)
    unfold effect_Last.f
    rw [hw]
    refine Ev.bind (g := fun k => effect_Last.l0 k l ino ((l.length : Int) - 1)) h1 ?_
    simp only [if_true, beq_self_eq_true]
    refine Ev.bind (g := fun k => effect_Pages.f k l) h2 ?_
    simp only [beq_self_eq_true]
    exact Ev.now true
  | succ d ih =>
    intro i h1 hd
    have q := ih (i + 1) (by omega) (by omega)
    have w := succ_w i (by omega)
    have hj : ∀ (a : Int) (b : Bool), a = (la l ino (i + 1)).1 → b = (la l ino (i + 1)).2 → Ev (fun k => sumplaw09_EffectTouches.j1 k l ino a b (pg l i) l (l.length : Int) (i : Int) (rd_T24 l (i : Int)).f0 (rd_T24 l (i : Int)).f1 (rd_T24 l (i : Int)).f2 (rd_T24 l (i : Int)).f3 (rd_T24 l (i : Int)).f4 (rd_T24 l (i : Int)).f5 (rd_T24 l (i : Int)).f6 (rd_T24 l (i : Int)).f7 (rd_T24 l (i : Int)).f8) true := by
      intro a b ha hb
      refine Ev.step (fun k => ?_) q
      rw [sumplaw09_EffectTouches.j1, ha, hb]
      unfold effect_Touches.f
      rw [w, pg]
      by_cases c : (rd_T24 l (i : Int)).f0 = 7
      · rw [if_pos c, if_pos c, Option.bind_some, if_neg (by simp)]
      · rw [if_neg c, if_neg c, Option.bind_some, if_neg (by simp)]
    by_cases c : (rd_T24 l (i : Int)).f1 = ino
    · exact Ev.step (fun k => by rw [sumplaw09_EffectTouches.l0, if_pos (by omega), if_pos (by omega), if_pos (by omega), if_pos c]) (hj _ _ (by rw [la, if_pos c]) (by rw [la, if_pos c]))
    · exact Ev.step (fun k => by rw [sumplaw09_EffectTouches.l0, if_pos (by omega), if_pos (by omega), if_pos (by omega), if_neg c]) (hj _ _ (by rw [la, if_neg c]) (by rw [la, if_neg c]))
def G24 (x : S24) : Prop := (Lit.int .i64 x.f0).wf = true ∧ (Lit.int .i64 x.f1).wf = true ∧ (Lit.int .i64 x.f2).wf = true ∧ (Lit.int .i64 x.f3).wf = true ∧ (Lit.int .i64 x.f4).wf = true ∧ (Lit.int .i64 x.f5).wf = true ∧ x.f6.size ≤ maxLen ∧ x.f7.size ≤ maxLen ∧ (x.f8.length ≤ maxLen ∧ ∀ y1 ∈ x.f8, (Lit.int .u8 y1).wf = true)
instance : Inhabited S24 := ⟨z24⟩
theorem law (l : (List S24)) (a1 : Int) (g0 : (l.length ≤ maxLen ∧ ∀ y1 ∈ l, G24 y1)) (y0 : l.length * 104 ≤ 140737488351232) (w1 : (Lit.int .i64 a1).wf = true) : ∃ k, sumplaw09_EffectTouches.f k l a1 = some true := by
  refine Ev.rounds (g := fun k => sumplaw09_EffectTouches.f k l a1) ?_
  unfold sumplaw09_EffectTouches.f
  have haw : Ev (fun k => sumplaw09_awake.f k) true := Ev.of (fun k => sumplaw09_awake.mono k) awake_true
  refine Ev.bind (g := fun k => sumplaw09_awake.f k) haw ?_
  obtain ⟨b, hb, hbt⟩ := few_ev l g0.1 l.length 0 (by omega) (by omega)
  simp only [if_true]
  refine Ev.bind (g := fun k => sumplaw09_Few.f k l) hb ?_
  cases b with
  | false => exact Ev.now true
  | true =>
    have h30 := hbt rfl
    simp only [if_true]
    exact law_ev l a1 (by omega) l.length 0 (by omega) (by omega)
end Go.Proofs.Yteoklaofbdfjlaa.PEffectTouches
