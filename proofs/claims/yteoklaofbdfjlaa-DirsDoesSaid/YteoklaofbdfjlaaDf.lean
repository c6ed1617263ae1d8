/- DirsFinds: the pure part. -/
import Derived.Test.YteoklaofbdfjlaaPDirsx3
import Derived.Test.YteoklaofbdfjlaaQ
import Derived.Sort.Walk0
namespace Go.Proofs.Yteoklaofbdfjlaa.PDirs
open Go.RowKit Go.Proofs.YteoklaofbdfjlaaW.PrintWords Go.Proofs.Yteoklaofbdfjlaa.Q
set_option linter.unusedVariables false
def nm (x : S49) : List UInt8 := x.f0.toList
theorem rdt (l : List S49) (i : Nat) (h : i < l.length) : rd_T49 l (i : Int) = l[i] := by
  unfold rd_T49
  rw [Int.toNat_natCast, List.getD_eq_getElem?_getD, List.getElem?_eq_getElem h]; rfl
theorem less_trans {a b c : List UInt8} (h : Op.bytesLess a b = true) (g : Op.bytesLess b c = true) : Op.bytesLess a c = true := by
  rw [Go.Proofs.bytesLess_eq] at *
  have h := of_decide_eq_true h
  have g := of_decide_eq_true g
  exact decide_eq_true (List.lt_trans h g)
theorem less_irrefl (a : List UInt8) : Op.bytesLess a a = false := by
  rw [Go.Proofs.bytesLess_eq]; exact decide_eq_false (List.lt_irrefl a)
/-! ### place, Find -/
theorem place_loop (s : ByteArray) (l : List S49) (hb : l.length ≤ 1000) : ∀ (d i k : Nat), l.length - i = d → i ≤ l.length → d < k →
    (∃ j, ∃ h : j < l.length, i ≤ j ∧ nm l[j] = s.toList ∧ dirs_place.l0 k s l (l.length : Int) (i : Int) = some (j : Int)) ∨ ((∀ x ∈ l.drop i, nm x ≠ s.toList) ∧ dirs_place.l0 k s l (l.length : Int) (i : Int) = some (-1)) := by
  intro d
  induction d with
  | zero =>
    intro i k h1 h2 h3
    obtain ⟨k, rfl⟩ : ∃ m, k = m + 1 := ⟨k - 1, by omega⟩
    refine Or.inr ⟨?_, by rw [dirs_place.l0, if_neg (by omega)]⟩
    rw [List.drop_eq_nil_of_le (by omega)]
    exact fun x hx => by cases hx
  | succ d ih =>
    intro i k h1 h2 h3
    obtain ⟨k, rfl⟩ : ∃ m, k = m + 1 := ⟨k - 1, by omega⟩
    have hi : i < l.length := by omega
    rw [dirs_place.l0, if_pos (by omega), if_pos (by omega), if_pos (by omega), rdt l i hi]
    by_cases c : l[i].f0.toList = s.toList
    · rw [if_pos c]; exact Or.inl ⟨i, hi, Nat.le_refl _, c, rfl⟩
    · rw [if_neg c, wrap64_in (by omega) (by omega)]
      rcases ih (i + 1) k (by omega) (by omega) (by omega) with ⟨j, hj, h, hn, he⟩ | ⟨hn, he⟩
      · exact Or.inl ⟨j, hj, by omega, hn, he⟩
      · refine Or.inr ⟨fun x hx => ?_, he⟩
        rw [List.drop_eq_getElem_cons hi, List.mem_cons] at hx
        rcases hx with rfl | hx
        · exact c
        · exact hn x hx
theorem find_ev (s : ByteArray) (l : List S49) (hb : l.length ≤ 1000) (k : Nat) (hk : l.length < k) :
    (∃ x ∈ l, nm x = s.toList ∧ dirs_Find.f k l s = some (x.f1, true)) ∨ ((∀ x ∈ l, nm x ≠ s.toList) ∧ dirs_Find.f k l s = some (0, false)) := by
  unfold dirs_Find.f dirs_place.f
  have h := place_loop s l hb l.length 0 k (by omega) (by omega) hk
  rw [show ((0 : Nat) : Int) = 0 from rfl, List.drop_zero] at h
  rcases h with ⟨j, hj, h, hn, he⟩ | ⟨hn, he⟩
  · refine Or.inl ⟨l[j], List.getElem_mem hj, hn, ?_⟩
    rw [he, Option.bind_some, if_neg (by omega), if_pos (by omega), if_pos (by omega), rdt l j hj]
  · refine Or.inr ⟨hn, ?_⟩
    rw [he, Option.bind_some, if_pos (by omega)]
/-! ### few -/
theorem few_loop (l : List S49) (hb : l.length ≤ 9223372036854775807) : ∀ (m i k : Nat), l.length - i = m → i ≤ l.length → m < k → ∃ r, sumplaw15_Few.l0 k l l (l.length : Int) (i : Int) = some r ∧ (r = true → l.length ≤ 30 ∧ ∀ x ∈ l.drop i, x.f0.size ≤ 100) := by
  intro m
  induction m with
  | zero =>
    intro i k h1 h2 h3
    obtain ⟨k, rfl⟩ : ∃ m, k = m + 1 := ⟨k - 1, by omega⟩
    rw [sumplaw15_Few.l0, if_neg (by omega), List.drop_eq_nil_of_le (by omega)]
    exact ⟨_, rfl, fun h => ⟨by have := of_decide_eq_true h; omega, fun x hx => by cases hx⟩⟩
  | succ m ih =>
    intro i k h1 h2 h3
    obtain ⟨k, rfl⟩ : ∃ m, k = m + 1 := ⟨k - 1, by omega⟩
    have hi : i < l.length := by omega
    rw [sumplaw15_Few.l0, if_pos (by omega), if_pos (by omega), if_pos (by omega), rdt l i hi]
    by_cases c : (l[i].f0.size : Int) > 100
    · rw [if_pos c]; exact ⟨_, rfl, fun h => by cases h⟩
    · rw [if_neg c, wrap64_in (by omega) (by omega)]
      obtain ⟨r, hr, hr2⟩ := ih (i + 1) k (by omega) (by omega) (by omega)
      refine ⟨r, hr, fun h => ⟨(hr2 h).1, fun x hx => ?_⟩⟩
      rw [List.drop_eq_getElem_cons hi, List.mem_cons] at hx
      rcases hx with rfl | hx
      · omega
      · exact (hr2 h).2 x hx
theorem few_ev (l : List S49) (hb : l.length ≤ 9223372036854775807) (k : Nat) (hk : l.length < k) : ∃ r, sumplaw15_Few.f k l = some r ∧ (r = true → l.length ≤ 30 ∧ ∀ x ∈ l, x.f0.size ≤ 100) := by
  have h := few_loop l hb l.length 0 k (by omega) (by omega) hk
  rw [List.drop_zero] at h; exact h
/-! ### right -/
theorem contains_47 (s : ByteArray) : strings_Contains.f s ⟨#[47]⟩ = some (decide (0 ≤ Lib.indexByte s.data.toList 47)) := by unfold strings_Contains.f; rw [if_pos rfl]
theorem contains_0 (s : ByteArray) : strings_Contains.f s ⟨#[0]⟩ = some (decide (0 ≤ Lib.indexByte s.data.toList 0)) := by unfold strings_Contains.f; rw [if_neg (by decide), if_pos rfl]
theorem check_some (s : ByteArray) (k : Nat) (hk : 2 < k) : ∃ r, name_Check.f k s = some r := by
  obtain ⟨k, rfl⟩ : ∃ m, k = m + 2 := ⟨k - 2, by omega⟩
  have h1 : ∀ b, ∃ r, name_Check.j1 (k + 1) s b = some r := fun b => by
    rw [name_Check.j1]
    split
    · exact ⟨_, rfl⟩
    · split <;> exact ⟨_, rfl⟩
  have h0 : ∀ b, ∃ r, name_Check.j0 (k + 2) s b = some r := fun b => by
    rw [name_Check.j0, contains_47, contains_0]
    split
    · exact ⟨_, rfl⟩
    · rw [Option.bind_some]
      split
      · exact h1 _
      · rw [Option.bind_some]; exact h1 _
  unfold name_Check.f
  split
  · exact h0 _
  · split <;> exact h0 _
def Asc (l : List S49) (i : Nat) : Prop := ∀ j, i ≤ j → ∀ h : j < l.length, 0 < j → Op.bytesLess (nm (l[j - 1]'(by omega))) (nm l[j]) = true
theorem right_loop (l : List S49) (hb : l.length ≤ 1000) : ∀ (m i k : Nat), l.length - i = m → i ≤ l.length → 2 * m + 5 < k → ∃ r, dirs_Right.l0 k l l (l.length : Int) (i : Int) = some r ∧ (r = true → Asc l i) := by
  intro m
  induction m with
  | zero =>
    intro i k h1 h2 h3
    obtain ⟨k, rfl⟩ : ∃ m, k = m + 1 := ⟨k - 1, by omega⟩
    rw [dirs_Right.l0, if_neg (by omega)]
    exact ⟨_, rfl, fun _ j hj h => by omega⟩
  | succ m ih =>
    intro i k h1 h2 h3
    obtain ⟨k, rfl⟩ : ∃ m, k = m + 2 := ⟨k - 2, by omega⟩
    have hi : i < l.length := by omega
    obtain ⟨t, ht⟩ := check_some l[i].f0 (k + 1) (by omega)
    obtain ⟨r, hr, hr2⟩ := ih (i + 1) k (by omega) (by omega) (by omega)
    have hw : wrap64 ((i : Int) + 1) = ((i + 1 : Nat) : Int) := by rw [wrap64_in (by omega) (by omega)]; rfl
    have hj : ∀ b y, ∃ q, dirs_Right.j1 (k + 1) l (i : Int) l (l.length : Int) (i : Int) b l[i].f0 y = some q ∧ (q = true → Asc l i) := by
      intro b y
      rw [dirs_Right.j1]
      by_cases c : b = true
      · rw [if_pos c]; exact ⟨_, rfl, fun h => by cases h⟩
      · rw [if_neg c]
        by_cases c2 : (i : Int) > 0
        · have hp : wrap64 ((i : Int) - 1) = ((i - 1 : Nat) : Int) := by rw [wrap64_in (by omega) (by omega)]; omega
          rw [if_pos c2, hp, if_pos (by omega), if_pos (by omega), rdt l (i - 1) (by omega)]
          unfold name_Less.f
          rw [Option.bind_some]
          by_cases c3 : Op.bytesLess l[i - 1].f0.toList l[i].f0.toList = true
          · rw [if_pos c3, hw]
            refine ⟨r, hr, fun h j hj hl h0 => ?_⟩
            by_cases e : j = i
            · subst e; exact c3
            · exact hr2 h j (by omega) hl h0
          · rw [if_neg c3]; exact ⟨_, rfl, fun h => by cases h⟩
        · rw [if_neg c2, hw]
          refine ⟨r, hr, fun h j hj hl h0 => ?_⟩
          exact hr2 h j (by omega) hl h0
    rw [dirs_Right.l0, if_pos (by omega), if_pos (by omega), if_pos (by omega), rdt l i hi, ht, Option.bind_some]
    split
    · split <;> exact hj _ _
    · exact hj _ _
theorem right_ev (l : List S49) (hb : l.length ≤ 1000) (k : Nat) (hk : 2 * l.length + 5 < k) : ∃ r, dirs_Right.f k l = some r ∧ (r = true → Asc l 0) :=
  right_loop l hb l.length 0 k (by omega) (by omega) hk
theorem asc_lt {l : List S49} (h : Asc l 0) : ∀ (d i : Nat) (hi : i + d + 1 < l.length), Op.bytesLess (nm (l[i]'(by omega))) (nm l[i + d + 1]) = true := by
  intro d
  induction d with
  | zero => intro i hi; exact h (i + 1) (by omega) (by omega) (by omega)
  | succ d ih =>
    intro i hi
    exact less_trans (ih i (by omega)) (h (i + (d + 1) + 1) (by omega) hi (by omega))
theorem asc_pair {l : List S49} (h : Asc l 0) : l.Pairwise (fun a b => nm a ≠ nm b) := by
  rw [List.pairwise_iff_getElem]
  intro i j hi hj hij e
  have := asc_lt h (j - i - 1) i (by omega)
  have hj2 : i + (j - i - 1) + 1 = j := by omega
  simp only [hj2] at this
  rw [e, less_irrefl] at this
  cases this
end Go.Proofs.Yteoklaofbdfjlaa.PDirs
