/- Effects: what name.Check, right and Check compute. -/
import Derived.Test.YteoklaofbdfjlaaPEffectChecksx9d
import Derived.Test.YteoklaofbdfjlaaQ
namespace Go.Proofs.Yteoklaofbdfjlaa.PEffectChecks
open Go.RowKit Go.Proofs.YteoklaofbdfjlaaW.PrintWords Go.Proofs.YteoklaofbdfjlaaW.PrintLast Go.Proofs.YteoklaofbdfjlaaW.PrintMore
set_option linter.unusedVariables false
def isNode (n : Int) : Bool := decide (1 ≤ n ∧ n ≤ 1048576)
theorem node_f (n : Int) : effect_node.f n = some (isNode n) := by
  unfold effect_node.f isNode
  by_cases c : n ≥ 1
  · rw [if_pos c]; congr 1; rw [decide_eq_decide]; exact ⟨fun h => ⟨c, h⟩, fun h => h.2⟩
  · rw [if_neg c]; congr 1; rw [eq_comm, decide_eq_false_iff_not]; omega
/-- The error's number of a name. -/
def nm (s : ByteArray) : Int :=
  if s.toList = [] ∨ s.toList = [46] ∨ s.toList = [46, 46] then 22 else if 0 ≤ Lib.indexByte s.data.toList 47 ∨ 0 ≤ Lib.indexByte s.data.toList 0 then 22 else if s.size > 24 then 36 else 0
theorem name_j1 (k : Nat) (s : ByteArray) (b : Bool) : name_Check.j1 (k + 1) s b = some (if b = true then 22 else if s.size > 24 then 36 else 0) := by
  rw [name_Check.j1]
  cases b
  · have hf : ¬ (false = true) := by decide
    rw [if_neg hf, if_neg hf]
    by_cases c : (s.size : Int) > 24
    · rw [if_pos c, if_pos (by omega)]
    · rw [if_neg c, if_neg (by omega)]
  · rw [if_pos rfl, if_pos rfl]
theorem name_f (k : Nat) (s : ByteArray) : name_Check.f (k + 2) s = some (nm s) := by
  have ht : name_Check.j0 (k + 2) s true = some 22 := by rw [name_Check.j0, if_pos rfl]
  unfold name_Check.f nm
  by_cases c1 : s.toList = []
  · rw [if_pos c1, if_pos (Or.inl c1)]; exact ht
  by_cases c2 : s.toList = [46]
  · rw [if_neg c1, if_pos c2, if_pos (Or.inr (Or.inl c2))]; exact ht
  by_cases c3 : s.toList = [46, 46]
  · rw [if_neg c1, if_neg c2, if_pos (Or.inr (Or.inr c3)), beq_iff_eq.mpr c3]; exact ht
  rw [if_neg c1, if_neg c2, if_neg (show ¬ (s.toList = [] ∨ s.toList = [46] ∨ s.toList = [46, 46]) from fun h => h.elim c1 fun h => h.elim c2 c3), beq_eq_false_iff_ne.mpr c3, name_Check.j0, if_neg (by decide)]
  have e1 : strings_Contains.f s (⟨#[47]⟩ : ByteArray) = some (decide (0 ≤ Lib.indexByte s.data.toList 47)) := by unfold strings_Contains.f; rw [if_pos rfl]
  have e2 : strings_Contains.f s (⟨#[0]⟩ : ByteArray) = some (decide (0 ≤ Lib.indexByte s.data.toList 0)) := by unfold strings_Contains.f; rw [if_neg (by decide), if_pos rfl]
  rw [e1, Option.bind_some, e2, Option.bind_some]
  by_cases c4 : 0 ≤ Lib.indexByte s.data.toList 47
  · rw [decide_eq_true c4, if_pos rfl, name_j1, if_pos rfl, if_pos (Or.inl c4)]
  · rw [decide_eq_false c4, if_neg (by decide), name_j1]
    by_cases c5 : 0 ≤ Lib.indexByte s.data.toList 0
    · rw [decide_eq_true c5, if_pos rfl, if_pos (Or.inr c5)]
    · have hf : ¬ (false = true) := by decide
      rw [decide_eq_false c5, if_neg hf, if_neg (show ¬ (0 ≤ Lib.indexByte s.data.toList 47 ∨ 0 ≤ Lib.indexByte s.data.toList 0) from fun h => h.elim c4 c5)]
def pl (n : Int) (s : ByteArray) : Bool := isNode n && (nm s == 0)
theorem place_f (k : Nat) (n : Int) (s : ByteArray) : effect_place.f (k + 2) n s = some (pl n s) := by
  unfold effect_place.f pl
  rw [node_f, Option.bind_some, name_f]
  cases isNode n
  · rw [if_neg (by decide)]; rfl
  · rw [if_pos rfl, Option.bind_some]; rfl
def rt (a0 a1 a2 a3 a4 a5 : Int) (a6 a7 : ByteArray) : Int × Int × Int × Int × Int × Int × ByteArray × ByteArray × Bool :=
  if a0 = 1 then (1, a1, a2, 0, a4, 0, a6, ⟨#[]⟩, pl a2 a6 && (a4 == 1 || a4 == 2))
  else if a0 = 2 ∨ a0 = 3 ∨ a0 = 4 then (a0, a1, a2, 0, 0, 0, a6, ⟨#[]⟩, pl a2 a6)
  else if a0 = 5 then (5, a1, a2, a3, 0, 0, a6, a7, pl a2 a6 && pl a3 a7)
  else if a0 = 6 then (6, a1, 0, 0, 0, a5, ⟨#[]⟩, ⟨#[]⟩, decide (0 ≤ a5) && decide (a5 ≤ 16384))
  else if a0 = 7 then (7, a1, 0, 0, a4, a5, ⟨#[]⟩, ⟨#[]⟩, decide (0 ≤ a4) && (decide (a4 < 64) && (decide (a5 ≤ 16384) && decide (wrap64 (a4 * 256) < a5))))
  else if a0 = 8 then (8, a1, 0, 0, 0, 0, ⟨#[]⟩, ⟨#[]⟩, true) else (a0, a1, 0, 0, 0, 0, ⟨#[]⟩, ⟨#[]⟩, false)
theorem right_f (k : Nat) (a0 a1 a2 a3 a4 a5 : Int) (a6 a7 : ByteArray) (l : List Int) : effect_right.f (k + 2) a0 a1 a2 a3 a4 a5 a6 a7 l = some (rt a0 a1 a2 a3 a4 a5 a6 a7) := by
  unfold effect_right.f rt
  rw [place_f, place_f]
  simp only [Option.bind_some]
  by_cases c1 : a0 = 1
  · rw [if_pos c1, if_pos c1]
  by_cases c2 : a0 = 2 ∨ a0 = 3 ∨ a0 = 4
  · rw [if_neg c1, if_neg c1, if_pos c2, if_pos c2]
  by_cases c5 : a0 = 5
  · rw [if_neg c1, if_neg c1, if_neg c2, if_neg c2, if_pos c5, if_pos c5]
    cases pl a2 a6
    · rw [if_neg (by decide)]; rfl
    · rw [if_pos rfl]; rfl
  rw [if_neg c1, if_neg c1, if_neg c2, if_neg c2, if_neg c5, if_neg c5]
  split <;> first | rfl | (split <;> first | rfl | (split <;> rfl))
/-- Whether an effect may be. -/
def ok (a0 a1 a2 a3 a4 a5 : Int) (a6 a7 : ByteArray) (n : Nat) : Bool :=
  let r := rt a0 a1 a2 a3 a4 a5 a6 a7
  r.2.2.2.2.2.2.2.2 && (isNode a1 && (!(!(r.1 == a0) || (!(r.2.1 == a1) || (!(r.2.2.1 == a2) || (!(r.2.2.2.1 == a3) || (!(r.2.2.2.2.1 == a4) || (!(r.2.2.2.2.2.1 == a5) || (!(r.2.2.2.2.2.2.1.toList == a6.toList) || (!(r.2.2.2.2.2.2.2.1.toList == a7.toList)))))))))) && decide ((n : Int) = if a0 = 7 then 256 else 0))
theorem check_f (k : Nat) (a0 a1 a2 a3 a4 a5 : Int) (a6 a7 : ByteArray) (l : List Int) : effect_Check.f (k + 3) a0 a1 a2 a3 a4 a5 a6 a7 l = some (if ok a0 a1 a2 a3 a4 a5 a6 a7 l.length = true then 0 else 92) := by
  unfold effect_Check.f ok
  rw [right_f (k + 1)]
  simp only [Option.bind_some]
  generalize rt a0 a1 a2 a3 a4 a5 a6 a7 = r
  have key : ∀ x5 : Int, x5 = (if a0 = 7 then (256 : Int) else 0) → effect_Check.j0 (k + 3) r.2.2.2.2.2.2.2.2 x5 a0 a1 a2 a3 a4 a5 a6 a7 l r.1 r.2.1 r.2.2.1 r.2.2.2.1 r.2.2.2.2.1 r.2.2.2.2.2.1 r.2.2.2.2.2.2.1 r.2.2.2.2.2.2.2.1 = some (if (r.2.2.2.2.2.2.2.2 && (isNode a1 && (!(!(r.1 == a0) || (!(r.2.1 == a1) || (!(r.2.2.1 == a2) || (!(r.2.2.2.1 == a3) || (!(r.2.2.2.2.1 == a4) || (!(r.2.2.2.2.2.1 == a5) || (!(r.2.2.2.2.2.2.1.toList == a6.toList) || (!(r.2.2.2.2.2.2.2.1.toList == a7.toList)))))))))) && decide ((l.length : Int) = if a0 = 7 then 256 else 0))) = true then 0 else 92) := by
    intro x5 hx
    rw [effect_Check.j0, node_f]
    cases r.2.2.2.2.2.2.2.2
    · rw [if_neg (by decide)]; rfl
    · rw [if_pos rfl, Option.bind_some]
      cases isNode a1
      · rw [if_neg (by decide)]; rfl
      · rw [if_pos rfl]
        unfold effect_of.f
        rw [Option.bind_some]
        simp only [Bool.true_and]
        generalize (!(r.1 == a0) || (!(r.2.1 == a1) || (!(r.2.2.1 == a2) || (!(r.2.2.2.1 == a3) || (!(r.2.2.2.2.1 == a4) || (!(r.2.2.2.2.2.1 == a5) || (!(r.2.2.2.2.2.2.1.toList == a6.toList) || (!(r.2.2.2.2.2.2.2.1.toList == a7.toList))))))))) = b
        cases b
        · rw [if_neg (by decide), hx]
          by_cases c : (l.length : Int) = (if a0 = 7 then (256 : Int) else 0)
          · rw [if_pos c, decide_eq_true c]; rfl
          · rw [if_neg c, decide_eq_false c]; rfl
        · rw [if_pos rfl]; rfl
  by_cases c : a0 = 7
  · rw [if_pos c]; exact key 256 (by rw [if_pos c])
  · rw [if_neg c]; exact key 0 (by rw [if_neg c])
theorem few_ev (l : List S24) (hl : l.length ≤ 9223372036854775807) (d : Nat) : ∀ (j : Nat), j ≤ l.length → l.length - j = d →
    ∃ b, Ev (fun k => sumplaw09_Few.l0 k l l (l.length : Int) (j : Int)) b ∧ (b = true → l.length ≤ 30) := by
  induction d with
  | zero =>
    intro j h1 hd
    obtain rfl : j = l.length := by omega
    exact ⟨_, Ev.step (fun k => by rw [sumplaw09_Few.l0, if_neg (by omega)]) (Ev.now _), fun h => by have := of_decide_eq_true h; omega⟩
  | succ d ih =>
    intro j h1 hd
    have w : wrap64 ((j : Int) + 1) = ((j + 1 : Nat) : Int) := by rw [Q.wrap64_in (by omega) (by omega)]; omega
    obtain ⟨b, hb, hbt⟩ := ih (j + 1) (by omega) (by omega)
    by_cases c1 : ((rd_T24 l (j : Int)).f8.length : Int) > 300
    · exact ⟨false, Ev.step (fun k => by rw [sumplaw09_Few.l0, if_pos (by omega), if_pos (by omega), if_pos (by omega), if_pos c1]) (Ev.now _), fun h => by cases h⟩
    by_cases c2 : ((rd_T24 l (j : Int)).f6.size : Int) > 100
    · exact ⟨false, Ev.step (fun k => by rw [sumplaw09_Few.l0, if_pos (by omega), if_pos (by omega), if_pos (by omega), if_neg c1, if_pos c2]) (Ev.now _), fun h => by cases h⟩
    by_cases c3 : ((rd_T24 l (j : Int)).f7.size : Int) > 100
    · exact ⟨false, Ev.step (fun k => by rw [sumplaw09_Few.l0, if_pos (by omega), if_pos (by omega), if_pos (by omega), if_neg c1, if_neg c2, if_pos c3]) (Ev.now _), fun h => by cases h⟩
    exact ⟨b, Ev.step (fun k => by rw [sumplaw09_Few.l0, if_pos (by omega), if_pos (by omega), if_pos (by omega), if_neg c1, if_neg c2, if_neg c3, w]) hb, hbt⟩
theorem awake_true : sumplaw09_awake.f 5 = some true := by decide +kernel
def G24 (x : S24) : Prop := (Lit.int .i64 x.f0).wf = true ∧ (Lit.int .i64 x.f1).wf = true ∧ (Lit.int .i64 x.f2).wf = true ∧ (Lit.int .i64 x.f3).wf = true ∧ (Lit.int .i64 x.f4).wf = true ∧ (Lit.int .i64 x.f5).wf = true ∧ x.f6.size ≤ maxLen ∧ x.f7.size ≤ maxLen ∧ (x.f8.length ≤ maxLen ∧ ∀ y1 ∈ x.f8, (Lit.int .u8 y1).wf = true)
instance : Inhabited S24 := ⟨z24⟩
end Go.Proofs.Yteoklaofbdfjlaa.PEffectChecks
