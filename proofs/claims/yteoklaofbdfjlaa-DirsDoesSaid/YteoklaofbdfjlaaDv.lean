/- DirsStay: right entries stay right, whatever is put and dropped: the pure law. -/
import Derived.Test.YteoklaofbdfjlaaDt
namespace Go.Proofs.Yteoklaofbdfjlaa.PDirs
open Go.RowKit Go.Proofs.YteoklaofbdfjlaaW.PrintWords Go.Proofs.Yteoklaofbdfjlaa.Q
set_option linter.unusedVariables false
theorem out_ne (l : List S49) (s : ByteArray) : ∀ x ∈ out s l, nm x ≠ s.toList := by
  intro x hx
  unfold out at hx
  have := (List.mem_filter.1 hx).2
  simpa [nm] using this
theorem out_right (l : List S49) (s : ByteArray) (h : RightP l) : RightP (out s l) :=
  ⟨fun x hx => h.1 x (List.mem_filter.1 hx).1, h.2.sublist List.filter_sublist⟩
theorem out_length (l : List S49) (s : ByteArray) : (out s l).length ≤ l.length := List.length_filter_le _ _
theorem stay_end (d : List S49) (s : ByteArray) (n : Int) (k : Nat) (hd : d.length ≤ 30) (hk : 100 < k) (hne : ∀ x ∈ d, nm x ≠ s.toList) :
    sumplaw15_DirsStay.j2 k s d (ins d ⟨s, n⟩ (dirs_Put.at d s)) false = some true := by
  obtain ⟨k, rfl⟩ : ∃ m, k = m + 1 := ⟨k - 1, by omega⟩
  have hl := ins_length d ⟨s, n⟩ (dirs_Put.at d s)
  rw [sumplaw15_DirsStay.j2, if_neg (by decide), drop_ev _ s (by omega), Option.bind_some, out_ins d s n _ hne, decide_eq_true (by omega), if_pos rfl, same_self d (by omega) k (by omega)]
  rfl
theorem law_stay0 (l : List S49) (s : ByteArray) (n : Int) (hl : l.length ≤ 9223372036854775807) : ∃ k, sumplaw15_DirsStay.f k l s n = some true := by
  refine ⟨l.length + 1001, ?_⟩
  have hj : sumplaw15_DirsStay.j0 (l.length + 1001) l s n true = some true := by rw [sumplaw15_DirsStay.j0, if_pos rfl]
  obtain ⟨r, hr, hr2⟩ := few_ev l hl (l.length + 1001) (by omega)
  unfold sumplaw15_DirsStay.f
  rw [awake_ev _ (by omega), Option.bind_some, if_pos rfl, hr, Option.bind_some]
  by_cases c : r = true
  · rw [if_pos c]
    obtain ⟨h30, _⟩ := hr2 c
    by_cases cs : (s.size : Int) > 100
    · rw [if_pos cs]; exact hj
    · rw [if_neg cs]
      obtain ⟨q, hq, hq2⟩ := right_ev2 l (by omega) (l.length + 1001) (by omega)
      rw [hq, Option.bind_some]
      cases q with
      | false => exact hj
      | true =>
        have hR := hq2.1 rfl
        have hd30 := out_length l s
        have hne := out_ne l s
        have hRd := out_right l s hR
        obtain ⟨d, hd⟩ : ∃ d, d = out s l := ⟨_, rfl⟩
        rw [← hd] at hd30 hne hRd
        have hpl := ins_length d ⟨s, n⟩ (dirs_Put.at d s)
        rw [sumplaw15_DirsStay.j0, if_neg (by decide), drop_ev l s (by omega), ← hd, Option.bind_some]
        rw [put_ev d s n (by omega) hne, Option.bind_some]
        obtain ⟨q1, hq1, hq12⟩ := right_ev2 d (by omega) (l.length + 1000) (by omega)
        rw [hq12.2 hRd] at hq1
        show ((dirs_Right.f (l.length + 1000) d).bind fun t170 => (if t170 = true then (sumplaw15_DirsStay.j1 (l.length + 1000) s n d (ins d ⟨s, n⟩ (dirs_Put.at d s)) (!true)) else (sumplaw15_DirsStay.j1 (l.length + 1000) s n d (ins d ⟨s, n⟩ (dirs_Put.at d s)) true))) = _
        rw [hq1, Option.bind_some, if_pos rfl]
        have hend := stay_end d s n (l.length + 999) (by omega) (by omega) hne
        rw [sumplaw15_DirsStay.j1, if_neg (by decide)]
        obtain ⟨r2, hr2', hr22⟩ := name_ev s (by omega) (l.length + 999) (by omega)
        rw [hr2', Option.bind_some]
        by_cases c1 : r2 = 0
        · rw [if_pos c1]
          by_cases c2 : n ≥ 1
          · rw [if_pos c2]
            by_cases c3 : n ≤ 1048576
            · rw [if_pos c3]
              obtain ⟨q3, hq3, hq32⟩ := right_ev2 (ins d ⟨s, n⟩ (dirs_Put.at d s)) (by omega) (l.length + 999) (by omega)
              rw [hq32.2 (ins_right d s n hRd hne ⟨hr22.1 c1, c2, c3⟩)] at hq3
              rw [hq3, Option.bind_some]
              exact hend
            · rw [if_neg c3]; exact hend
          · rw [if_neg c2]; exact hend
        · rw [if_neg c1]; exact hend
  · rw [if_neg c]; exact hj
theorem law_stay (l0 : (List S49)) (a1 : ByteArray) (a2 : Int) (g0 : (l0.length ≤ maxLen ∧ ∀ y1 ∈ l0, G49 y1)) (y0 : l0.length * 24 ≤ 140737488351232) (w1 : a1.size ≤ 140737488351232) (w2 : (Lit.int .i64 a2).wf = true) : ∃ k, sumplaw15_DirsStay.f k l0 a1 a2 = some true :=
  law_stay0 l0 a1 a2 (by have := g0.1; unfold maxLen at this; omega)
end Go.Proofs.Yteoklaofbdfjlaa.PDirs
