/- EffectChecks: the pure part: whether any effect may be, and whether two are the same. -/
import Derived.Test.YteoklaofbdfjlaaEfChecks
import Derived.Lib.IndexLaws
namespace Go.Proofs.Yteoklaofbdfjlaa.PEffectChecks
open Go.RowKit Go.Proofs.YteoklaofbdfjlaaW.PrintWords Go.Proofs.YteoklaofbdfjlaaW.PrintLast Go.Proofs.YteoklaofbdfjlaaW.PrintMore
set_option linter.unusedVariables false
theorem index_mem (l : List UInt8) (c : UInt8) : 0 ≤ Lib.indexByte l c ↔ c ∈ l := by
  constructor
  · intro h
    have e : Lib.indexByte l c = ((Lib.indexByte l c).toNat : Int) := by omega
    exact List.mem_of_getElem? (Lib.indexByte_some e).1
  · intro h
    have g := Lib.indexByte_ge l c
    rcases Int.lt_or_le (Lib.indexByte l c) 0 with h2 | h2
    · have e : Lib.indexByte l c = -1 := by omega
      obtain ⟨i, hi⟩ := List.mem_iff_getElem?.1 h
      exact absurd hi (Lib.indexByte_none e i)
    · exact h2
theorem num_f (n : Int) : sumpref09_number.f n = some (isNode n) := by
  unfold sumpref09_number.f isNode
  by_cases c : n ≥ 1
  · rw [if_pos c]; congr 1; rw [decide_eq_decide]; exact ⟨fun h => ⟨c, h⟩, fun h => h.2⟩
  · rw [if_neg c]; congr 1; rw [eq_comm, decide_eq_false_iff_not]; omega
theorem rname_l (s : ByteArray) (hs : s.size ≤ 9223372036854775807) (d : Nat) : ∀ i : Nat, i ≤ s.size → s.size - i = d →
    Ev (fun k => sumpref01_Name.l0 k s (i : Int)) (if (47 : UInt8) ∈ s.toList.drop i ∨ (0 : UInt8) ∈ s.toList.drop i then 22 else if s.size > 24 then 36 else 0) := by
  have hl := Q.len_toList s
  induction d with
  | zero =>
    intro i h1 hd
    obtain rfl : i = s.size := by omega
    rw [List.drop_eq_nil_of_le (by omega), if_neg (by simp)]
    by_cases c : s.size > 24
    · exact Ev.step (fun k => by rw [sumpref01_Name.l0, if_neg (by omega), if_pos (show (s.size : Int) > 24 by omega)]; rw [if_pos c]) (Ev.now _)
    · exact Ev.step (fun k => by rw [sumpref01_Name.l0, if_neg (by omega), if_neg (show ¬ (s.size : Int) > 24 by omega)]; rw [if_neg c]) (Ev.now _)
  | succ d ih =>
    intro i h1 hd
    have hi : i < s.size := by omega
    have hi2 : i < s.toList.length := by omega
    have hb := Q.bt_toList s i hi
    have w : wrap64 ((i : Int) + 1) = ((i + 1 : Nat) : Int) := by rw [Q.wrap64_in (by omega) (by omega)]; omega
    have q1 : (i : Int) < (s.size : Int) := by omega
    have q2 : 0 ≤ (i : Int) := by omega
    have h2 := ih (i + 1) (by omega) (by omega)
    have e47 : ((s.toList[i].toNat : Nat) : Int) = 47 ↔ s.toList[i] = 47 := Q.byte_eq (s.toList[i]) 47 (by omega)
    have e0 : ((s.toList[i].toNat : Nat) : Int) = 0 ↔ s.toList[i] = 0 := Q.byte_eq (s.toList[i]) 0 (by omega)
    rw [List.drop_eq_getElem_cons hi2]
    by_cases c1 : s.toList[i] = 47
    · rw [if_pos (Or.inl (by rw [c1]; exact List.mem_cons_self))]
      exact Ev.step (fun k => by rw [sumpref01_Name.l0, if_pos q1, if_pos q2, hb, if_pos (e47.2 c1)]) (Ev.now _)
    · by_cases c2 : s.toList[i] = 0
      · rw [if_pos (Or.inr (by rw [c2]; exact List.mem_cons_self))]
        exact Ev.step (fun k => by rw [sumpref01_Name.l0, if_pos q1, if_pos q2, hb, if_neg (fun h => c1 (e47.1 h)), if_pos (e0.2 c2)]) (Ev.now _)
      · have em : ((47 : UInt8) ∈ s.toList[i] :: s.toList.drop (i + 1) ∨ (0 : UInt8) ∈ s.toList[i] :: s.toList.drop (i + 1)) ↔ ((47 : UInt8) ∈ s.toList.drop (i + 1) ∨ (0 : UInt8) ∈ s.toList.drop (i + 1)) := by
          rw [List.mem_cons, List.mem_cons]
          constructor
          · rintro ((h | h) | (h | h))
            · exact absurd h.symm c1
            · exact Or.inl h
            · exact absurd h.symm c2
            · exact Or.inr h
          · rintro (h | h)
            · exact Or.inl (Or.inr h)
            · exact Or.inr (Or.inr h)
        simp only [em]
        exact Ev.step (fun k => by rw [sumpref01_Name.l0, if_pos q1, if_pos q2, hb, if_neg (fun h => c1 (e47.1 h)), if_neg (fun h => c2 (e0.1 h)), w]) h2
theorem rname_ev (s : ByteArray) (hs : s.size ≤ 9223372036854775807) : Ev (fun k => sumpref01_Name.f k s) (nm s) := by
  unfold sumpref01_Name.f nm
  have ht : Ev (fun k => sumpref01_Name.j0 k s true) 22 := Ev.step (fun k => by rw [sumpref01_Name.j0, if_pos rfl]) (Ev.now _)
  by_cases c1 : s.toList = []
  · simpa only [if_pos c1, if_pos (show s.toList = [] ∨ s.toList = [46] ∨ s.toList = [46, 46] from Or.inl c1)] using ht
  by_cases c2 : s.toList = [46]
  · simpa only [if_neg c1, if_pos c2, if_pos (show s.toList = [] ∨ s.toList = [46] ∨ s.toList = [46, 46] from Or.inr (Or.inl c2))] using ht
  by_cases c3 : s.toList = [46, 46]
  · simpa only [if_neg c1, if_neg c2, beq_iff_eq.mpr c3, if_pos (show s.toList = [] ∨ s.toList = [46] ∨ s.toList = [46, 46] from Or.inr (Or.inr c3))] using ht
  simp only [if_neg c1, if_neg c2, beq_eq_false_iff_ne.mpr c3, if_neg (show ¬ (s.toList = [] ∨ s.toList = [46] ∨ s.toList = [46, 46]) from fun h => h.elim c1 fun h => h.elim c2 c3)]
  have h := rname_l s hs s.size 0 (by omega) (by omega)
  rw [List.drop_zero] at h
  have e : (0 ≤ Lib.indexByte s.data.toList 47 ∨ 0 ≤ Lib.indexByte s.data.toList 0) ↔ ((47 : UInt8) ∈ s.toList ∨ (0 : UInt8) ∈ s.toList) := by rw [index_mem, index_mem, ByteArray.toList_eq]
  simp only [e]
  exact Ev.step (fun k => by rw [sumpref01_Name.j0, if_neg (by decide)]; rfl) h
theorem it {c : Prop} [Decidable c] {X : Option Int} {b : Bool} (h : X = some (if b = true then 0 else 92)) : (if c then X else some 92) = some (if (decide c && b) = true then 0 else 92) := by
  by_cases k : c
  · rw [if_pos k, h, decide_eq_true k, Bool.true_and]
  · rw [if_neg k, decide_eq_false k, Bool.false_and]; rfl
theorem nume (n : Int) : ((sumpref09_number.f n).bind fun t => (if t = true then (some (0 : Int)) else (some 92))) = some (if isNode n = true then 0 else 92) := by
  rw [num_f, Option.bind_some]; cases isNode n <;> rfl
/-- The reference's conditions. -/
def rk (x3 x4 x5 : Bool) (a0 a1 a3 a4 a5 m7 : Int) (n : Nat) : Bool :=
  if a0 = 1 then decide (x3 = true) && (decide (x5 = true) && (decide ((n : Int) = 0) && (decide (a4 = 1 ∨ a4 = 2) && (decide (a5 = 0) && isNode a1))))
  else if a0 = 2 ∨ a0 = 3 ∨ a0 = 4 then decide (x3 = true) && (decide (x5 = true) && (decide (((n : Int) == 0) = true) && (decide (a4 = 0) && (decide (a5 = 0) && isNode a1))))
  else if a0 = 5 then decide (x3 = true) && (isNode a3 && (decide (m7 = 0) && (decide (((n : Int) == 0) = true) && (decide (a4 = 0) && (decide (a5 = 0) && isNode a1)))))
  else if a0 = 6 then decide (x4 = true) && (decide (x5 = true) && (decide (((n : Int) == 0) = true) && (decide (a4 = 0) && (decide (a5 ≥ 0) && (decide (a5 ≤ 16384) && isNode a1)))))
  else if a0 = 7 then decide (x4 = true) && (decide (x5 = true) && (decide ((n : Int) = 256) && (decide (a4 ≥ 0) && (decide (a4 ≤ 63) && (decide (a5 ≤ 16384) && (decide (a5 > wrap64 (256 * a4)) && isNode a1))))))
  else if a0 = 8 then decide (x4 = true) && (decide (x5 = true) && (decide (((n : Int) == 0) = true) && (decide (a4 = 0) && (decide (a5 = 0) && isNode a1)))) else false
theorem j3_t (x3 x4 x5 : Bool) (a0 a1 a2 a3 a4 a5 : Int) (a6 a7 : ByteArray) (l : List Int) (k : Nat) :
    sumpref09_Check.j3 (k + 1) x3 x4 x5 ((l.length : Int) == 0) a0 true a0 a1 a2 a3 a4 a5 a6 a7 l = some (if (decide (x3 = true) && (decide (x5 = true) && (decide (((l.length : Int) == 0) = true) && (decide (a4 = 0) && (decide (a5 = 0) && isNode a1))))) = true then 0 else 92) := by
  rw [sumpref09_Check.j3, if_pos rfl]
  exact it (it (it (it (it (nume a1)))))
theorem j3_ev (x3 x4 x5 : Bool) (a0 a1 a2 a3 a4 a5 : Int) (a6 a7 : ByteArray) (l : List Int) (h7 : a7.size ≤ 9223372036854775807) (c1 : ¬ a0 = 1) (c2 : ¬ (a0 = 2 ∨ a0 = 3 ∨ a0 = 4)) :
    Ev (fun k => sumpref09_Check.j3 k x3 x4 x5 ((l.length : Int) == 0) a0 false a0 a1 a2 a3 a4 a5 a6 a7 l) (if rk x3 x4 x5 a0 a1 a3 a4 a5 (nm a7) l.length = true then 0 else 92) := by
  have hf : ¬ (false = true) := by decide
  unfold rk
  rw [if_neg c1, if_neg c2]
  by_cases c5 : a0 = 5
  · rw [if_pos c5]
    cases x3 with
    | false => exact Ev.step (fun k => by rw [sumpref09_Check.j3, if_neg hf, if_pos c5, if_neg hf]) (Ev.now 92)
    | true =>
      refine Ev.step (f := fun k => (sumpref09_number.f a3).bind fun t138 => (if t138 = true then ((sumpref01_Name.f k a7).bind fun t139 => (if t139 = 0 then (if ((l.length : Int) == 0) = true then (if a4 = 0 then (if a5 = 0 then ((sumpref09_number.f a1).bind fun t140 => (if t140 = true then (some 0) else (some 92))) else (some 92)) else (some 92)) else (some 92)) else (some 92))) else (some 92))) (fun k => by rw [sumpref09_Check.j3, if_neg hf, if_pos c5, if_pos rfl]) ?_
      rw [num_f]
      cases isNode a3 with
      | false => exact Ev.now 92
      | true =>
        refine Ev.congr (f := fun k => (sumpref01_Name.f k a7).bind fun t139 => (if t139 = 0 then (if ((l.length : Int) == 0) = true then (if a4 = 0 then (if a5 = 0 then ((sumpref09_number.f a1).bind fun t140 => (if t140 = true then (some 0) else (some 92))) else (some 92)) else (some 92)) else (some 92)) else (some 92))) (fun k => by rw [Option.bind_some, if_pos rfl]) ?_
        refine Ev.bind (g := fun k => sumpref01_Name.f k a7) (rname_ev a7 h7) ?_
        refine Ev.congr (f := fun _ => some (if (decide (nm a7 = 0) && (decide (((l.length : Int) == 0) = true) && (decide (a4 = 0) && (decide (a5 = 0) && isNode a1)))) = true then 0 else 92)) (fun _ => it (it (it (it (nume a1))))) ?_
        have e : (decide (true = true) && (true && (decide (nm a7 = 0) && (decide (((l.length : Int) == 0) = true) && (decide (a4 = 0) && (decide (a5 = 0) && isNode a1)))))) = (decide (nm a7 = 0) && (decide (((l.length : Int) == 0) = true) && (decide (a4 = 0) && (decide (a5 = 0) && isNode a1)))) := rfl
        rw [e]
        exact Ev.now _
  rw [if_neg c5]
  by_cases c6 : a0 = 6
  · rw [if_pos c6]
    exact Ev.step (f := fun _ => _) (fun k => by rw [sumpref09_Check.j3, if_neg hf, if_neg c5, if_pos c6]; exact it (it (it (it (it (it (nume a1))))))) (Ev.now _)
  rw [if_neg c6]
  by_cases c7 : a0 = 7
  · rw [if_pos c7]
    exact Ev.step (f := fun _ => _) (fun k => by rw [sumpref09_Check.j3, if_neg hf, if_neg c5, if_neg c6, if_pos c7]; exact it (it (it (it (it (it (it (nume a1)))))))) (Ev.now _)
  rw [if_neg c7]
  by_cases c8 : a0 = 8
  · rw [if_pos c8]
    exact Ev.step (f := fun _ => _) (fun k => by rw [sumpref09_Check.j3, if_neg hf, if_neg c5, if_neg c6, if_neg c7, if_pos c8]; exact it (it (it (it (it (nume a1)))))) (Ev.now _)
  rw [if_neg c8]
  exact Ev.step (fun k => by rw [sumpref09_Check.j3, if_neg hf, if_neg c5, if_neg c6, if_neg c7, if_neg c8]) (Ev.now 92)
theorem j2_ev (x3 x4 x5 : Bool) (a0 a1 a2 a3 a4 a5 : Int) (a6 a7 : ByteArray) (l : List Int) (h7 : a7.size ≤ 9223372036854775807) :
    Ev (fun k => sumpref09_Check.j2 k x3 x4 x5 a0 a1 a2 a3 a4 a5 a6 a7 l) (if rk x3 x4 x5 a0 a1 a3 a4 a5 (nm a7) l.length = true then 0 else 92) := by
  by_cases c1 : a0 = 1
  · unfold rk
    rw [if_pos c1]
    refine Ev.step (f := fun _ => _) (fun k => ?_) (Ev.now _)
    rw [sumpref09_Check.j2, if_pos c1]
    refine it (it (it ?_))
    by_cases d1 : a4 = 1
    · rw [if_pos d1, decide_eq_true (show a4 = 1 ∨ a4 = 2 from Or.inl d1), Bool.true_and]; exact it (nume a1)
    · by_cases d2 : a4 = 2
      · rw [if_neg d1, if_pos d2, decide_eq_true (show a4 = 1 ∨ a4 = 2 from Or.inr d2), Bool.true_and]; exact it (nume a1)
      · rw [if_neg d1, if_neg d2, decide_eq_false (show ¬ (a4 = 1 ∨ a4 = 2) from fun h => h.elim d1 d2), Bool.false_and]; rfl
  by_cases c2 : a0 = 2 ∨ a0 = 3 ∨ a0 = 4
  · have ht : Ev (fun k => sumpref09_Check.j3 k x3 x4 x5 ((l.length : Int) == 0) a0 true a0 a1 a2 a3 a4 a5 a6 a7 l) (if rk x3 x4 x5 a0 a1 a3 a4 a5 (nm a7) l.length = true then 0 else 92) := by
      unfold rk
      rw [if_neg c1, if_pos c2]
      exact Ev.step (f := fun _ => _) (fun k => j3_t x3 x4 x5 a0 a1 a2 a3 a4 a5 a6 a7 l k) (Ev.now _)
    rcases c2 with e | e | e
    · exact Ev.step (fun k => by rw [sumpref09_Check.j2, if_neg c1, if_pos e, beq_iff_eq.mpr e]) ht
    · exact Ev.step (fun k => by rw [sumpref09_Check.j2, if_neg c1, if_neg (show ¬ a0 = 2 by omega), if_pos e, beq_iff_eq.mpr e]) ht
    · exact Ev.step (fun k => by rw [sumpref09_Check.j2, if_neg c1, if_neg (show ¬ a0 = 2 by omega), if_neg (show ¬ a0 = 3 by omega), beq_iff_eq.mpr e]) ht
  · exact Ev.step (fun k => by rw [sumpref09_Check.j2, if_neg c1, if_neg (show ¬ a0 = 2 by omega), if_neg (show ¬ a0 = 3 by omega), beq_eq_false_iff_ne.mpr (show a0 ≠ 4 by omega)]) (j3_ev x3 x4 x5 a0 a1 a2 a3 a4 a5 a6 a7 l h7 c1 c2)
theorem rcheck_ev (a0 a1 a2 a3 a4 a5 : Int) (a6 a7 : ByteArray) (l : List Int) (h6 : a6.size ≤ 9223372036854775807) (h7 : a7.size ≤ 9223372036854775807) :
    Ev (fun k => sumpref09_Check.f k a0 a1 a2 a3 a4 a5 a6 a7 l) (if rk (pl a2 a6) (decide (a2 = 0) && (a6.toList == [])) (decide (a3 = 0) && (a7.toList == [])) a0 a1 a3 a4 a5 (nm a7) l.length = true then 0 else 92) := by
  have h1 : ∀ x3 x4 : Bool, Ev (fun k => sumpref09_Check.j1 k x3 x4 a0 a1 a2 a3 a4 a5 a6 a7 l) (if rk x3 x4 (decide (a3 = 0) && (a7.toList == [])) a0 a1 a3 a4 a5 (nm a7) l.length = true then 0 else 92) := by
    intro x3 x4
    by_cases c : a3 = 0
    · rw [decide_eq_true c, Bool.true_and]
      exact Ev.step (fun k => by rw [sumpref09_Check.j1, if_pos c]) (j2_ev x3 x4 (a7.toList == []) a0 a1 a2 a3 a4 a5 a6 a7 l h7)
    · rw [decide_eq_false c, Bool.false_and]
      exact Ev.step (fun k => by rw [sumpref09_Check.j1, if_neg c]) (j2_ev x3 x4 false a0 a1 a2 a3 a4 a5 a6 a7 l h7)
  have h0 : ∀ x3 : Bool, Ev (fun k => sumpref09_Check.j0 k x3 a0 a1 a2 a3 a4 a5 a6 a7 l) (if rk x3 (decide (a2 = 0) && (a6.toList == [])) (decide (a3 = 0) && (a7.toList == [])) a0 a1 a3 a4 a5 (nm a7) l.length = true then 0 else 92) := by
    intro x3
    by_cases c : a2 = 0
    · rw [decide_eq_true c, Bool.true_and]
      exact Ev.step (fun k => by rw [sumpref09_Check.j0, if_pos c]) (h1 x3 (a6.toList == []))
    · rw [decide_eq_false c, Bool.false_and]
      exact Ev.step (fun k => by rw [sumpref09_Check.j0, if_neg c]) (h1 x3 false)
  unfold sumpref09_Check.f pl
  rw [num_f]
  cases isNode a2 with
  | false => exact h0 false
  | true =>
    refine Ev.congr (f := fun k => (sumpref01_Name.f k a6).bind fun t134 => sumpref09_Check.j0 k (t134 == 0) a0 a1 a2 a3 a4 a5 a6 a7 l) (fun k => by rw [Option.bind_some, if_pos rfl]) ?_
    exact Ev.bind (g := fun k => sumpref01_Name.f k a6) (rname_ev a6 h6) (h0 (nm a6 == 0))
theorem nil_list : ((⟨#[]⟩ : ByteArray).toList) = [] := by decide +kernel
theorem ok_rk (a0 a1 a2 a3 a4 a5 : Int) (a6 a7 : ByteArray) (n : Nat) : ok a0 a1 a2 a3 a4 a5 a6 a7 n = rk (pl a2 a6) (decide (a2 = 0) && (a6.toList == [])) (decide (a3 = 0) && (a7.toList == [])) a0 a1 a3 a4 a5 (nm a7) n := by
  unfold ok rt rk
  by_cases c1 : a0 = 1
  · subst c1
    simp only [if_true, nil_list]
    rw [Bool.eq_iff_iff]
    simp
    grind
  by_cases c2 : a0 = 2 ∨ a0 = 3 ∨ a0 = 4
  · have c7 : ¬ a0 = 7 := by omega
    simp only [if_neg c1, if_pos c2, if_neg c7, nil_list]
    rw [Bool.eq_iff_iff]
    simp
    grind
  by_cases c5 : a0 = 5
  · subst c5
    simp only [if_neg c1, if_neg c2, if_true, pl]
    rw [Bool.eq_iff_iff]
    simp
    grind
  by_cases c6 : a0 = 6
  · subst c6
    simp only [if_neg c1, if_neg c2, if_neg c5, if_true, nil_list]
    rw [Bool.eq_iff_iff]
    simp
    grind
  by_cases c7 : a0 = 7
  · subst c7
    simp only [if_neg c1, if_neg c2, if_neg c5, if_neg c6, if_true, nil_list]
    rw [Bool.eq_iff_iff, Int.mul_comm]
    simp
    grind
  by_cases c8 : a0 = 8
  · subst c8
    simp only [if_neg c1, if_neg c2, if_neg c5, if_neg c6, if_neg c7, if_true, nil_list]
    rw [Bool.eq_iff_iff]
    simp
    grind
  · simp only [if_neg c1, if_neg c2, if_neg c5, if_neg c6, if_neg c7, if_neg c8, Bool.false_and]
theorem same_f (a0 a1 a2 a3 a4 a5 : Int) (a6 a7 : ByteArray) (l : List Int) (b0 b1 b2 b3 b4 b5 : Int) (b6 b7 : ByteArray) (m : List Int) :
    ∃ b, effect_Same.f a0 a1 a2 a3 a4 a5 a6 a7 l b0 b1 b2 b3 b4 b5 b6 b7 m = some b ∧ sumpref09_Same.f a0 a1 a2 a3 a4 a5 a6 a7 l b0 b1 b2 b3 b4 b5 b6 b7 m = some b := by
  unfold effect_Same.f effect_of.f sumpref09_Same.f bytes_Equal.f
  simp only [Option.bind_some]
  by_cases c0 : a0 = b0
  case neg => exact ⟨false, by rw [if_neg (by simp [c0])], by rw [if_neg c0]⟩
  by_cases c1 : a1 = b1
  case neg => exact ⟨false, by rw [if_neg (by simp [c1])], by rw [if_pos c0, if_neg c1]⟩
  by_cases c2 : a2 = b2
  case neg => exact ⟨false, by rw [if_neg (by simp [c2])], by rw [if_pos c0, if_pos c1, if_neg c2]⟩
  by_cases c3 : a3 = b3
  case neg => exact ⟨false, by rw [if_neg (by simp [c3])], by rw [if_pos c0, if_pos c1, if_pos c2, if_neg c3]⟩
  by_cases c4 : a4 = b4
  case neg => exact ⟨false, by rw [if_neg (by simp [c4])], by rw [if_pos c0, if_pos c1, if_pos c2, if_pos c3, if_neg c4]⟩
  by_cases c5 : a5 = b5
  case neg => exact ⟨false, by rw [if_neg (by simp [c5])], by rw [if_pos c0, if_pos c1, if_pos c2, if_pos c3, if_pos c4, if_neg c5]⟩
  by_cases c6 : a6.toList = b6.toList
  case neg => exact ⟨false, by rw [if_neg (by simp [c6])], by rw [if_pos c0, if_pos c1, if_pos c2, if_pos c3, if_pos c4, if_pos c5, if_neg c6]⟩
  by_cases c7 : a7.toList = b7.toList
  case neg => exact ⟨false, by rw [if_neg (by simp [c7])], by rw [if_pos c0, if_pos c1, if_pos c2, if_pos c3, if_pos c4, if_pos c5, if_pos c6, if_neg c7]⟩
  exact ⟨_, by rw [if_pos (by simp [c0, c1, c2, c3, c4, c5, c6, c7])], by rw [if_pos c0, if_pos c1, if_pos c2, if_pos c3, if_pos c4, if_pos c5, if_pos c6, if_pos c7]⟩
/-- Which numbers have a word. -/
theorem word_f (n : Int) : ∃ t, effect_Word.f n = some t ∧ (t.toList = [] ↔ (n < 1 ∨ n > 8)) := by
  refine ⟨_, rfl, ?_⟩
  by_cases c : 0 ≤ n
  · rw [if_pos c]
    obtain ⟨m, rfl⟩ : ∃ m : Nat, n = m := ⟨n.toNat, by omega⟩
    rw [Int.toNat_natCast]
    by_cases c9 : m < 9
    · have key : ∀ m : Nat, m < 9 → ((effect_Word.wd m).toList = [] ↔ m = 0) := by decide +kernel
      rw [key m c9]; omega
    · have e : effect_Word.wd m = ⟨#[]⟩ := by
        unfold effect_Word.wd
        rw [List.getD_eq_getElem?_getD, List.getElem?_eq_none (by simp [effect_Word.list]; omega)]; rfl
      rw [e]
      exact ⟨fun _ => by omega, fun _ => nil_list⟩
  · rw [if_neg c]
    exact ⟨fun _ => by omega, fun _ => nil_list⟩
theorem ok_word {a0 a1 a2 a3 a4 a5 : Int} {a6 a7 : ByteArray} {m : Nat} (h : a0 < 1 ∨ a0 > 8) : ok a0 a1 a2 a3 a4 a5 a6 a7 m = false := by
  unfold ok rt
  rw [if_neg (show ¬ a0 = 1 by omega), if_neg (show ¬ (a0 = 2 ∨ a0 = 3 ∨ a0 = 4) by omega), if_neg (show ¬ a0 = 5 by omega), if_neg (show ¬ a0 = 6 by omega), if_neg (show ¬ a0 = 7 by omega), if_neg (show ¬ a0 = 8 by omega)]
  rfl
theorem tail_true (a0 a1 a2 a3 a4 a5 : Int) (a6 a7 : ByteArray) (l : List Int) (t : ByteArray) (ht : t.toList = [] ↔ (a0 < 1 ∨ a0 > 8)) (X : Nat → Option Int)
    (hX : Ev X (if ok a0 a1 a2 a3 a4 a5 a6 a7 l.length = true then 0 else 92)) :
    Ev (fun k => if t.toList = ([] : List UInt8) then ((X k).bind fun t191 => (some (t191 != 0))) else (some true)) true := by
  by_cases c : t.toList = []
  · simp only [if_pos c]
    rw [ok_word (ht.1 c)] at hX
    exact Ev.bind hX (Ev.now true)
  · simp only [if_neg c]
    exact Ev.now true
theorem law (x0 : S24) (x1 : S24) (a2 : Int) (g0 : G24 x0) (g1 : G24 x1) (w2 : (Lit.int .i64 a2).wf = true) : ∃ k, sumplaw09_EffectChecks.f k x0.f0 x0.f1 x0.f2 x0.f3 x0.f4 x0.f5 x0.f6 x0.f7 x0.f8 x1.f0 x1.f1 x1.f2 x1.f3 x1.f4 x1.f5 x1.f6 x1.f7 x1.f8 a2 = some true := by
  obtain ⟨-, -, -, -, -, -, s6, s7, -⟩ := g0
  obtain ⟨kd, ino, dir, tt, pg, sz, nam, oth, dat⟩ := x0
  obtain ⟨kd1, ino1, dir1, tt1, pg1, sz1, nam1, oth1, dat1⟩ := x1
  refine Ev.rounds (g := fun k => sumplaw09_EffectChecks.f k kd ino dir tt pg sz nam oth dat kd1 ino1 dir1 tt1 pg1 sz1 nam1 oth1 dat1 a2) ?_
  unfold sumplaw09_EffectChecks.f
  have haw : Ev (fun k => sumplaw09_awake.f k) true := Ev.of (fun k => sumplaw09_awake.mono k) awake_true
  refine Ev.bind (g := fun k => sumplaw09_awake.f k) haw ?_
  simp only [if_true]
  obtain ⟨b, hb, hbt⟩ := few_ev [(⟨kd, ino, dir, tt, pg, sz, nam, oth, dat⟩ : S24), (⟨kd1, ino1, dir1, tt1, pg1, sz1, nam1, oth1, dat1⟩ : S24)] (by simp) 2 0 (by simp) (by simp)
  refine Ev.bind (g := fun k => sumplaw09_Few.f k [(⟨kd, ino, dir, tt, pg, sz, nam, oth, dat⟩ : S24), (⟨kd1, ino1, dir1, tt1, pg1, sz1, nam1, oth1, dat1⟩ : S24)]) hb ?_
  cases b with
  | false => exact Ev.now true
  | true =>
  simp only [if_true]
  have hc : Ev (fun k => effect_Check.f k kd ino dir tt pg sz nam oth dat) (if ok kd ino dir tt pg sz nam oth dat.length = true then 0 else 92) := ⟨3, fun k hk => by
    obtain ⟨m, rfl⟩ : ∃ m, k = m + 3 := ⟨k - 3, by omega⟩
    exact check_f m _ _ _ _ _ _ _ _ _⟩
  have hr := rcheck_ev kd ino dir tt pg sz nam oth dat (Nat.le_trans s6 (by decide)) (Nat.le_trans s7 (by decide))
  rw [← ok_rk] at hr
  refine Ev.bind (g := fun k => effect_Check.f k kd ino dir tt pg sz nam oth dat) hc ?_
  refine Ev.bind (g := fun k => sumpref09_Check.f k kd ino dir tt pg sz nam oth dat) hr ?_
  simp only [if_true]
  obtain ⟨q, hq1, hq2⟩ := same_f kd ino dir tt pg sz nam oth dat kd1 ino1 dir1 tt1 pg1 sz1 nam1 oth1 dat1
  rw [hq1, hq2]
  simp only [Option.bind_some, beq_self_eq_true, if_true]
  obtain ⟨t, ht1, ht2⟩ := word_f a2
  obtain ⟨u, hu1, hu2⟩ := word_f kd
  rw [ht1, hu1]
  unfold effect_Bare.f
  simp only [Option.bind_some]
  by_cases c : a2 < 1
  · have e : ((t.toList == ([] : List UInt8)) == true) = true := by simp [ht2.2 (Or.inl c)]
    simp only [if_pos c, e, if_true]
    exact tail_true kd ino dir tt pg sz nam oth dat u hu2 _ hc
  · have e : ((t.toList == ([] : List UInt8)) == (decide (a2 > 8))) = true := by
      by_cases d : a2 > 8
      · simp [ht2.2 (Or.inr d), d]
      · have : t.toList ≠ [] := fun h => (ht2.1 h).elim c d
        rw [decide_eq_false d, beq_eq_false_iff_ne.mpr this]; rfl
    simp only [if_neg c, e, if_true]
    exact tail_true kd ino dir tt pg sz nam oth dat u hu2 _ hc
end Go.Proofs.Yteoklaofbdfjlaa.PEffectChecks
