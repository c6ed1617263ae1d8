/- DirsFinds: the law. -/
import Derived.Test.YteoklaofbdfjlaaDf
namespace Go.Proofs.Yteoklaofbdfjlaa.PDirs
open Go.RowKit Go.Proofs.YteoklaofbdfjlaaW.PrintWords Go.Proofs.Yteoklaofbdfjlaa.Q
set_option linter.unusedVariables false
theorem uniq {l : List S49} (h : l.Pairwise (fun a b => nm a ≠ nm b)) {x y : S49} (hx : x ∈ l) (hy : y ∈ l) (e : nm x = nm y) : x = y := by
  induction l with
  | nil => cases hx
  | cons a l ih =>
    rw [List.pairwise_cons] at h
    rw [List.mem_cons] at hx hy
    rcases hx with rfl | hx <;> rcases hy with rfl | hy
    · rfl
    · exact absurd e (h.1 y hy)
    · exact absurd e.symm (h.1 x hx)
    · exact ih h.2 hx hy
def out (s : ByteArray) (l : List S49) : List S49 := l.filter (fun x => decide (¬ x.f0.toList = s.toList))
theorem out_none {s : ByteArray} {l : List S49} (h : ∀ x ∈ l, nm x ≠ s.toList) : out s l = l := by
  unfold out
  rw [List.filter_eq_self]
  exact fun x hx => decide_eq_true (h x hx)
theorem out_one {s : ByteArray} {l : List S49} (h : l.Pairwise (fun a b => nm a ≠ nm b)) {x : S49} (hx : x ∈ l) (e : nm x = s.toList) : (out s l).length + 1 = l.length := by
  induction l with
  | nil => cases hx
  | cons a l ih =>
    rw [List.pairwise_cons] at h
    rw [List.mem_cons] at hx
    unfold out at *
    by_cases c : nm a = s.toList
    · rw [List.filter_cons_of_neg (by simpa [nm] using c)]
      have : l.filter (fun x => decide (¬ x.f0.toList = s.toList)) = l := out_none (fun y hy q => h.1 y hy (by rw [c, q]))
      rw [this, List.length_cons]
    · rw [List.filter_cons_of_pos (by simpa [nm] using c), List.length_cons, List.length_cons]
      rcases hx with rfl | hx
      · exact absurd e c
      · rw [ih h.2 hx]
theorem drop_ev (l : List S49) (s : ByteArray) (hl : l.length ≤ 1000) : dirs_Drop.f l s = some (out s l, decide ((out s l).length < l.length)) := by
  unfold dirs_Drop.f; rw [if_pos hl]; rfl
theorem names_loop (l : List S49) (hb : l.length ≤ 1000) : ∀ (m i k : Nat) (acc : List ByteArray), l.length - i = m → i ≤ l.length → acc.length = i → m < k → ∃ r, dirs_Names.l0 k acc l (l.length : Int) (i : Int) = some r ∧ r.length = l.length := by
  intro m
  induction m with
  | zero =>
    intro i k acc h1 h2 ha h3
    obtain ⟨k, rfl⟩ : ∃ m, k = m + 1 := ⟨k - 1, by omega⟩
    rw [dirs_Names.l0, if_neg (by omega)]
    exact ⟨_, rfl, by omega⟩
  | succ m ih =>
    intro i k acc h1 h2 ha h3
    obtain ⟨k, rfl⟩ : ∃ m, k = m + 1 := ⟨k - 1, by omega⟩
    rw [dirs_Names.l0, if_pos (by omega), if_pos (by omega), if_pos (by omega), if_pos (by omega), wrap64_in (by omega) (by omega)]
    exact ih (i + 1) k _ (by omega) (by omega) (by rw [List.length_append, List.length_cons, List.length_nil]; omega) (by omega)
theorem names_ev (l : List S49) (hb : l.length ≤ 1000) (k : Nat) (hk : l.length < k) : ∃ r, dirs_Names.f k l = some r ∧ r.length = l.length :=
  names_loop l hb l.length 0 k [] (by omega) (by omega) rfl hk
theorem end_ev (l : List S49) (s : ByteArray) (hb : l.length ≤ 30) (hp : l.Pairwise (fun a b => nm a ≠ nm b)) (k : Nat) (hk : 100 < k) : sumplaw15_DirsFinds.l0 k l s l (l.length : Int) (l.length : Int) = some true := by
  obtain ⟨k, rfl⟩ : ∃ m, k = m + 1 := ⟨k - 1, by omega⟩
  obtain ⟨t, ht, ht2⟩ := names_ev l (by omega) k (by omega)
  rw [sumplaw15_DirsFinds.l0, if_neg (by omega)]
  rcases find_ev s l (by omega) k (by omega) with ⟨x, hx, hn, he⟩ | ⟨hn, he⟩
  · have ho := out_one hp hx hn
    rw [he, Option.bind_some, drop_ev l s (by omega), Option.bind_some, decide_eq_true (by omega)]
    show (if (true == true) = true then (if true = true then ((sumplaw15_count.f true).bind fun t149 => (if ((out s l).length : Int) = (wrap64 ((l.length : Int) - t149)) then ((dirs_Names.f k l).bind fun t150 => (some ((t150.length : Int) == (l.length : Int)))) else (some false))) else _) else _) = _
    rw [if_pos (show (true == true) = true from rfl), if_pos rfl]
    unfold sumplaw15_count.f
    rw [if_pos rfl, Option.bind_some, wrap64_in (by omega) (by omega), if_pos (by omega), ht, Option.bind_some, ht2, beq_self_eq_true]
  · have ho := out_none hn
    rw [he, Option.bind_some, drop_ev l s (by omega), Option.bind_some, ho, decide_eq_false (by omega)]
    show (if (false == false) = true then (if false = true then _ else (if (0 : Int) = 0 then ((sumplaw15_count.f false).bind fun t153 => (if (l.length : Int) = (wrap64 ((l.length : Int) - t153)) then ((dirs_Names.f k l).bind fun t154 => (some ((t154.length : Int) == (l.length : Int)))) else (some false))) else _)) else _) = _
    rw [if_pos (show (false == false) = true from rfl), if_neg Bool.false_ne_true, if_pos rfl]
    unfold sumplaw15_count.f
    rw [if_neg Bool.false_ne_true, Option.bind_some, wrap64_in (by omega) (by omega), if_pos (by omega), ht, Option.bind_some, ht2, beq_self_eq_true]
theorem all_loop (l : List S49) (s : ByteArray) (hb : l.length ≤ 30) (hp : l.Pairwise (fun a b => nm a ≠ nm b)) : ∀ (m i k : Nat), l.length - i = m → i ≤ l.length → m + 150 < k → sumplaw15_DirsFinds.l0 k l s l (l.length : Int) (i : Int) = some true := by
  intro m
  induction m with
  | zero =>
    intro i k h1 h2 h3
    obtain rfl : i = l.length := by omega
    exact end_ev l s hb hp k (by omega)
  | succ m ih =>
    intro i k h1 h2 h3
    obtain ⟨k, rfl⟩ : ∃ m, k = m + 1 := ⟨k - 1, by omega⟩
    have hi : i < l.length := by omega
    rw [sumplaw15_DirsFinds.l0, if_pos (by omega), if_pos (by omega), if_pos (by omega), rdt l i hi]
    rcases find_ev l[i].f0 l (by omega) k (by omega) with ⟨x, hx, hn, he⟩ | ⟨hn, he⟩
    · obtain rfl := uniq hp hx (List.getElem_mem hi) hn
      rw [he, Option.bind_some]
      rw [if_pos rfl, if_pos rfl, wrap64_in (by omega) (by omega)]
      exact ih (i + 1) k (by omega) (by omega) (by omega)
    · exact absurd rfl (hn _ (List.getElem_mem hi))
theorem awake_ev (k : Nat) (hk : 10 < k) : sumplaw15_awake.f k = some true := by
  have hp : dirs_Put.f ([] : List S49) (⟨#[97]⟩ : ByteArray) 2 = some ([⟨⟨#[97]⟩, 2⟩], true) := by
    unfold dirs_Put.f; rw [if_pos (by decide), if_neg (by decide)]; rfl
  unfold sumplaw15_awake.f
  rw [hp, Option.bind_some]
  rcases find_ev (⟨#[97]⟩ : ByteArray) [⟨⟨#[97]⟩, 2⟩] (by decide) k (by simpa using (by omega : 1 < k)) with ⟨x, hx, hn, he⟩ | ⟨hn, he⟩
  · obtain rfl : x = ⟨⟨#[97]⟩, 2⟩ := by simpa using hx
    show ((dirs_Find.f k [⟨⟨#[97]⟩, 2⟩] (⟨#[97]⟩ : ByteArray)).bind fun bt120 => (if true = true then (if bt120.2 = true then (some (bt120.1 == 2)) else (some false)) else (some false))) = _
    rw [he, Option.bind_some]; rfl
  · exact absurd rfl (hn _ (List.mem_cons_self ..))
theorem law0 (l : List S49) (s : ByteArray) (hl : l.length ≤ 9223372036854775807) : ∃ k, sumplaw15_DirsFinds.f k l s = some true := by
  refine ⟨l.length + 1001, ?_⟩
  have hj : sumplaw15_DirsFinds.j0 (l.length + 1001) l s true = some true := by rw [sumplaw15_DirsFinds.j0, if_pos rfl]
  obtain ⟨r, hr, hr2⟩ := few_ev l hl (l.length + 1001) (by omega)
  unfold sumplaw15_DirsFinds.f
  rw [awake_ev _ (by omega), Option.bind_some, if_pos rfl, hr, Option.bind_some]
  by_cases c : r = true
  · rw [if_pos c]
    obtain ⟨h30, _⟩ := hr2 c
    split
    · exact hj
    · obtain ⟨q, hq, hq2⟩ := right_ev l (by omega) (l.length + 1001) (by omega)
      rw [hq, Option.bind_some, sumplaw15_DirsFinds.j0]
      cases q with
      | false => rw [if_pos (show (!false) = true from rfl)]
      | true =>
        rw [if_neg (by decide)]
        exact all_loop l s h30 (asc_pair (hq2 rfl)) l.length 0 (l.length + 1000) (by omega) (by omega) (by omega)
  · rw [if_neg c]; exact hj
instance : Inhabited S49 := ⟨z49⟩
def G49 (x : S49) : Prop := x.f0.size ≤ maxLen ∧ (Lit.int .i64 x.f1).wf = true
theorem law (l0 : (List S49)) (a1 : ByteArray) (g0 : (l0.length ≤ maxLen ∧ ∀ y1 ∈ l0, G49 y1)) (y0 : l0.length * 24 ≤ 140737488351232) (w1 : a1.size ≤ 140737488351232) : ∃ k, sumplaw15_DirsFinds.f k l0 a1 = some true :=
  law0 l0 a1 (by have := g0.1; unfold maxLen at this; omega)
end Go.Proofs.Yteoklaofbdfjlaa.PDirs
