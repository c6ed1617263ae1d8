/- EffectShapes: the pure part: an effect that may be says just what its kind needs. -/
import Derived.Test.YteoklaofbdfjlaaEfShapes
namespace Go.Proofs.Yteoklaofbdfjlaa.PEffectShapes
open Go.RowKit Go.Proofs.YteoklaofbdfjlaaW.PrintWords Go.Proofs.YteoklaofbdfjlaaW.PrintLast Go.Proofs.YteoklaofbdfjlaaW.PrintMore
set_option linter.unusedVariables false
theorem ok_out (n a1 a2 a3 a4 a5 : Int) (a6 a7 : ByteArray) (m : Nat) (h : n < 1 ∨ n > 8) : ok n a1 a2 a3 a4 a5 a6 a7 m = false := by
  unfold ok rt
  rw [if_neg (show ¬ n = 1 by omega), if_neg (show ¬ (n = 2 ∨ n = 3 ∨ n = 4) by omega), if_neg (show ¬ n = 5 by omega), if_neg (show ¬ n = 6 by omega), if_neg (show ¬ n = 7 by omega), if_neg (show ¬ n = 8 by omega)]
  rfl
theorem ok_parts {a0 a1 a2 a3 a4 a5 : Int} {a6 a7 : ByteArray} {m : Nat} (h : ok a0 a1 a2 a3 a4 a5 a6 a7 m = true) : (rt a0 a1 a2 a3 a4 a5 a6 a7).2.2.2.2.2.2.2.2 = true ∧ isNode a1 = true ∧ (m : Int) = if a0 = 7 then 256 else 0 := by
  unfold ok at h
  simp only [Bool.and_eq_true] at h
  exact ⟨h.1, h.2.1.1, of_decide_eq_true h.2.2⟩
theorem ok_len0 (a0 a1 a2 a3 a4 a5 : Int) (a6 a7 : ByteArray) (h : a0 = 7) : ok a0 a1 a2 a3 a4 a5 a6 a7 0 = false := by
  cases e : ok a0 a1 a2 a3 a4 a5 a6 a7 0 with
  | false => rfl
  | true => have := (ok_parts e).2.2; rw [if_pos h] at this; simp at this
theorem same_bare (a0 a1 a2 a3 a4 a5 : Int) (a6 a7 : ByteArray) : effect_Same.f a0 a1 a2 a3 a4 a5 a6 a7 [] a0 a1 a2 a3 a4 a5 a6 a7 [] = some true := by
  unfold effect_Same.f effect_of.f
  rw [Option.bind_some, Option.bind_some, if_pos (by simp)]
  unfold bytes_Equal.f
  rw [Option.bind_some]; simp
theorem pages_one (x : S24) (h : x.f0 ≠ 7) : Ev (fun k => effect_Pages.f k [x]) 0 := by
  have e0 : rd_T24 [x] 0 = x := rfl
  refine Ev.step (f := fun k => effect_Pages.l0 k 0 [x] ((([x] : List S24).length : Nat) : Int) 1) (fun k => ?_) (Ev.step (f := fun _ => some 0) (fun k => ?_) (Ev.now 0))
  · unfold effect_Pages.f
    have w1 : wrap64 ((0 : Int) + 1) = 1 := Q.wrap64_in (by omega) (by omega)
    rw [effect_Pages.l0, if_pos (by simp), if_pos (by omega), if_pos (by simp), e0, if_neg h, w1]
  · rw [effect_Pages.l0, if_neg (by simp)]
theorem law (x0 : S24) (a1 : Int) (g0 : G24 x0) (w1 : (Lit.int .i64 a1).wf = true) : ∃ k, sumplaw09_EffectShapes.f k x0.f0 x0.f1 x0.f2 x0.f3 x0.f4 x0.f5 x0.f6 x0.f7 x0.f8 a1 = some true := by
  obtain ⟨kd, ino, dir, tt, pg, sz, nam, oth, dat⟩ := x0
  refine Ev.rounds (g := fun k => sumplaw09_EffectShapes.f k kd ino dir tt pg sz nam oth dat a1) ?_
  unfold sumplaw09_EffectShapes.f
  have haw : Ev (fun k => sumplaw09_awake.f k) true := Ev.of (fun k => sumplaw09_awake.mono k) awake_true
  refine Ev.bind (g := fun k => sumplaw09_awake.f k) haw ?_
  obtain ⟨b, hb, hbt⟩ := few_ev [(⟨kd, ino, dir, tt, pg, sz, nam, oth, dat⟩ : S24)] (by simp) 1 0 (by simp) (by simp)
  have ht : Ev (fun k => sumplaw09_EffectShapes.j0 k a1 true kd ino dir tt pg sz nam oth dat) true := Ev.step (fun k => by rw [sumplaw09_EffectShapes.j0, if_pos rfl]) (Ev.now true)
  simp only [if_true]
  refine Ev.bind (g := fun k => sumplaw09_Few.f k [(⟨kd, ino, dir, tt, pg, sz, nam, oth, dat⟩ : S24)]) hb ?_
  cases b with
  | false => simpa using ht
  | true =>
  simp only [if_true]
  have hc : ∀ (q : Int) (l : List Int), Ev (fun k => effect_Check.f k q ino dir tt pg sz nam oth l) (if ok q ino dir tt pg sz nam oth l.length = true then 0 else 92) := fun q l => ⟨3, fun k hk => by
    obtain ⟨m, rfl⟩ : ∃ m, k = m + 3 := ⟨k - 3, by omega⟩
    exact check_f m _ _ _ _ _ _ _ _ _⟩
  refine Ev.bind (g := fun k => effect_Check.f k kd ino dir tt pg sz nam oth dat) (hc kd dat) ?_
  cases ho : ok kd ino dir tt pg sz nam oth dat.length with
  | false =>
    have : (((if false = true then (0 : Int) else 92) != 0)) = true := rfl
    rw [this]; exact ht
  | true =>
  have hz : (((if true = true then (0 : Int) else 92) != 0)) = false := rfl
  rw [hz]
  obtain ⟨h9, hn, hl⟩ := ok_parts ho
  have hino := of_decide_eq_true hn
  have hg : (decide (ino > 1048576)) = false := decide_eq_false (by omega)
  have hj1 : Ev (fun k => sumplaw09_EffectShapes.j1 k false kd ino dir tt pg sz nam oth dat) true := by
    by_cases c7 : kd = 7
    · refine Ev.step (f := fun k => (effect_Check.f k kd ino dir tt pg sz nam oth ([] : List Int)).bind fun t176 => (if t176 = 92 then (if sz > (wrap64 (256 * pg)) then (some ((dat.length : Int) == 256)) else (some false)) else (some false))) (fun k => by rw [sumplaw09_EffectShapes.j1, if_neg (by decide), if_pos c7]; rfl) ?_
      refine Ev.bind (g := fun k => effect_Check.f k kd ino dir tt pg sz nam oth ([] : List Int)) (hc kd []) ?_
      have h0 := ok_len0 kd ino dir tt pg sz nam oth c7
      have e0 : ([] : List Int).length = 0 := rfl
      rw [e0, h0]
      rw [if_pos c7] at hl
      have hr : wrap64 (256 * pg) < sz := by
        unfold rt at h9
        rw [if_neg (show ¬ kd = 1 by omega), if_neg (show ¬ (kd = 2 ∨ kd = 3 ∨ kd = 4) by omega), if_neg (show ¬ kd = 5 by omega), if_neg (show ¬ kd = 6 by omega), if_pos c7] at h9
        simp only [Bool.and_eq_true] at h9
        rw [Int.mul_comm]
        exact of_decide_eq_true h9.2.2.2
      have e9 : (if (false = true) then (0 : Int) else 92) = 92 := rfl
      simp only [e9, if_true, if_pos hr]
      rw [hl]
      exact Ev.now true
    · rw [if_neg c7] at hl
      obtain rfl : dat = [] := List.eq_nil_of_length_eq_zero (by omega)
      refine Ev.step (f := fun k => (effect_Same.f kd ino dir tt pg sz nam oth [] kd ino dir tt pg sz nam oth []).bind fun t188 => (if t188 = true then ((effect_Pages.f k (([(⟨kd, ino, dir, tt, pg, sz, nam, oth, []⟩ : S24)] : List (S24)))).bind fun t192 => (some (t192 == 0))) else (some false))) (fun k => by rw [sumplaw09_EffectShapes.j1, if_neg (by decide), if_neg c7]; rfl) ?_
      rw [same_bare]
      simp only [Option.bind_some, if_true]
      refine Ev.bind (g := fun k => effect_Pages.f k [(⟨kd, ino, dir, tt, pg, sz, nam, oth, []⟩ : S24)]) (pages_one _ c7) ?_
      exact Ev.now true
  have hj1' : Ev (fun k => if ino < 1 then (sumplaw09_EffectShapes.j1 k true kd ino dir tt pg sz nam oth dat) else (sumplaw09_EffectShapes.j1 k (decide (ino > 1048576)) kd ino dir tt pg sz nam oth dat)) true := by
    simp only [if_neg (show ¬ ino < 1 by omega), hg]; exact hj1
  by_cases c1 : a1 = kd
  · exact Ev.step (fun k => by rw [sumplaw09_EffectShapes.j0, if_neg (by decide), if_pos c1]) hj1'
  have hx : (a1 < 1 ∨ a1 > 8) → Ev (fun k => (effect_Check.f k a1 ino dir tt pg sz nam oth dat).bind fun t163 => (if t163 = 0 then (sumplaw09_EffectShapes.j1 k true kd ino dir tt pg sz nam oth dat) else (if ino < 1 then (sumplaw09_EffectShapes.j1 k true kd ino dir tt pg sz nam oth dat) else (sumplaw09_EffectShapes.j1 k (decide (ino > 1048576)) kd ino dir tt pg sz nam oth dat)))) true := by
    intro h
    refine Ev.bind (g := fun k => effect_Check.f k a1 ino dir tt pg sz nam oth dat) (hc a1 dat) ?_
    rw [ok_out a1 ino dir tt pg sz nam oth dat.length h]
    have e9 : ¬ ((if (false = true) then (0 : Int) else 92) = 0) := by decide
    simp only [if_neg e9]
    exact hj1'
  by_cases c2 : a1 < 1
  · exact Ev.step (fun k => by rw [sumplaw09_EffectShapes.j0, if_neg (by decide), if_neg c1, if_pos c2]) (hx (Or.inl c2))
  by_cases c3 : a1 > 8
  · exact Ev.step (fun k => by rw [sumplaw09_EffectShapes.j0, if_neg (by decide), if_neg c1, if_neg c2, if_pos c3]) (hx (Or.inr c3))
  exact Ev.step (fun k => by rw [sumplaw09_EffectShapes.j0, if_neg (by decide), if_neg c1, if_neg c2, if_neg c3]) hj1'
end Go.Proofs.Yteoklaofbdfjlaa.PEffectShapes
