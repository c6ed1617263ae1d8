/- slices.Insert at Entry: one entry put into a row of the call's own. -/
import Derived.Test.YteoklaofbdfjlaaDp
import Derived.Lib.AppendZerosOnto
import Derived.Lib.Overlaps
import Derived.Laws.Externs
import Derived.Laws.NewBlocks
import Derived.Shelf.RegionOpenPlain
import Derived.Shelf.Spec.SlicesInsert
namespace Go.Proofs.Yteoklaofbdfjlaa.Dc
open Go.RowKit Go.Lib Go.Proofs.YteoklaofbdfjlaaW.PrintWords Go.Proofs.YteoklaofbdfjlaaW.PrintLast Go.Proofs.YteoklaofbdfjlaaW.PrintMore Go.Proofs.Yteoklaofbdfjlaa.PDirs
set_option linter.unusedVariables false
def ins (l : List S49) (x : S49) (i : Nat) : List S49 := l.take i ++ x :: l.drop i
theorem ins_len (l : List S49) (x : S49) (i : Nat) (hi : i ≤ l.length) : (ins l x i).length = l.length + 1 := by
  unfold ins; rw [List.length_append, List.length_cons, List.length_take, List.length_drop]; omega
theorem E_ins (l : List S49) (x : S49) (i : Nat) : FC.E enc (ins l x i) = (FC.E enc l).take (i * 2) ++ enc x ++ (FC.E enc l).drop (i * 2) := by
  unfold ins
  rw [FC.E_append, FC.E_cons, FC.E_take F49.len, FC.E_drop F49.len, List.append_assoc]
/-- The two copies, on lists: first what stands from i on goes on by one, then the new one is written. -/
theorem two_copies (L D V : List Value) (o n : Nat) (hV : V.length = 2) (ho : o + 2 + D.length ≤ L.length) (hn : n = o + 2 + D.length) :
    let L1 := L.take (o + 2) ++ D ++ L.drop (o + 2 + D.length)
    (L1.take o ++ V ++ L1.drop (o + V.length)).take n = L.take o ++ V ++ D := by
  intro L1
  have h1 : L1.take o = L.take o := by
    show ((L.take (o + 2) ++ D) ++ L.drop (o + 2 + D.length)).take o = _
    rw [List.append_assoc, List.take_append_of_le_length (by rw [List.length_take]; omega), List.take_take, Nat.min_eq_left (by omega)]
  have h2 : L1.drop (o + V.length) = D ++ L.drop (o + 2 + D.length) := by
    show ((L.take (o + 2) ++ D) ++ L.drop (o + 2 + D.length)).drop (o + V.length) = _
    rw [hV, List.append_assoc, List.drop_append, List.length_take, Nat.min_eq_left (by omega), List.drop_eq_nil_of_le (by rw [List.length_take]; omega), List.nil_append, Nat.sub_self, List.drop_zero]
  rw [h1, h2, ← List.append_assoc, List.take_append_of_le_length (by simp only [List.length_append, List.length_take]; omega), List.take_of_length_le (by simp only [List.length_append, List.length_take]; omega)]
/-- The other order: first the new one, then what stands from i on. -/
theorem two_copies' (L D V : List Value) (o n : Nat) (hV : V.length = 2) (ho : o + 2 + D.length ≤ L.length) (hn : n = o + 2 + D.length) :
    let L1 := L.take o ++ V ++ L.drop (o + V.length)
    (L1.take (o + 2) ++ D ++ L1.drop (o + 2 + D.length)).take n = L.take o ++ V ++ D := by
  intro L1
  have h1 : L1.take (o + 2) = L.take o ++ V := by
    show ((L.take o ++ V) ++ L.drop (o + V.length)).take (o + 2) = _
    rw [List.take_append_of_le_length (by simp only [List.length_append, List.length_take]; omega), List.take_of_length_le (by simp only [List.length_append, List.length_take]; omega)]
  rw [h1, List.take_append_of_le_length (by simp only [List.length_append, List.length_take]; omega), List.take_of_length_le (by simp only [List.length_append, List.length_take]; omega)]
theorem enc_len (x : S49) : (enc x).length = 2 := rfl
/-- In place: there is room. -/
theorem row_in_place {w : World} {base : Nat} {ok : Nat → Prop} {g c : Nat} {l : List S49} (h : Kd.R k49 49 w base ok (.slice (some ⟨g, 0, none⟩) l.length c) l) (x : S49) (i : Nat) (hi : i < l.length) (hroom : l.length + 1 ≤ c) :
    Kd.R k49 49 ((w.setCells g ((i + 1) * 2) ((FC.E enc l).drop (i * 2))).setCells g (i * 2) (enc x)) base ok (.slice (some ⟨g, 0, none⟩) (l.length + 1) c) (ins l x i) := by
  rcases FC.R_cells F49 h with ⟨hv, _⟩ | ⟨g', cap', cur, hv, hb, ho, hh, h1, h2, h3, h4⟩
  · exact absurd hv (by simp)
  have hgc : g = g' ∧ c = cap' := by
    injection hv with ha _ hc
    injection ha with ha
    injection ha with hg
    exact ⟨hg, hc⟩
  obtain ⟨rfl, rfl⟩ := hgc
  have hEl : (FC.E enc l).length = l.length * 2 := FC.E_len F49.len l
  have hD : ((FC.E enc l).drop (i * 2)).length = l.length * 2 - i * 2 := by rw [List.length_drop, hEl]
  obtain ⟨c1, k1, k2, k3⟩ := setCells_row ((FC.E enc l).drop (i * 2)) ((i + 1) * 2) w cur hh (by rw [hD]; omega)
  obtain ⟨c2, m1, m2, m3⟩ := setCells_row (enc x) (i * 2) _ c1 k1 (by rw [enc_len]; omega)
  have hcl : cur.toList.length = c * 2 := by rw [Array.length_toList]; omega
  have hl := ins_len l x i (by omega)
  have := FC.cells_R (e := 49) (l := ins l x i) F49 g c c2 hb ho m1 (by omega) h2 (by omega) (by
    rw [m3, k3, hl, E_ins]
    have := two_copies cur.toList ((FC.E enc l).drop (i * 2)) (enc x) (i * 2) ((l.length + 1) * 2) rfl (by rw [hD]; omega) (by rw [hD]; omega)
    rw [show i * 2 + 2 = (i + 1) * 2 by omega] at this
    rw [this]
    congr 2
    rw [← h4, List.take_take, Nat.min_eq_left (by omega)])
  rw [hl] at this
  exact this
/-- A new row. -/
theorem row_new {w : World} {base : Nat} {ok : Nat → Prop} {g c : Nat} {l : List S49} (x : S49) (i : Nat) (hi : i < l.length) (cur : Array Value) (hb : base ≤ g) (ho : ok g) (hh : w.heap[g]? = some (.cells cur 49 (0, 0))) (h1 : l.length + 1 ≤ c) (h2 : c ≤ maxLen) (h3 : cur.size = c * 2) (h4 : cur.toList.take (i * 2) = (FC.E enc l).take (i * 2)) :
    Kd.R k49 49 ((w.setCells g (i * 2) (enc x)).setCells g ((i + 1) * 2) ((FC.E enc l).drop (i * 2))) base ok (.slice (some ⟨g, 0, none⟩) (l.length + 1) c) (ins l x i) := by
  have hEl : (FC.E enc l).length = l.length * 2 := FC.E_len F49.len l
  have hD : ((FC.E enc l).drop (i * 2)).length = l.length * 2 - i * 2 := by rw [List.length_drop, hEl]
  obtain ⟨c1, k1, k2, k3⟩ := setCells_row (enc x) (i * 2) w cur hh (by rw [enc_len]; omega)
  obtain ⟨c2, m1, m2, m3⟩ := setCells_row ((FC.E enc l).drop (i * 2)) ((i + 1) * 2) _ c1 k1 (by rw [hD]; omega)
  have hcl : cur.toList.length = c * 2 := by rw [Array.length_toList]; omega
  have hl := ins_len l x i (by omega)
  have := FC.cells_R (e := 49) (l := ins l x i) F49 g c c2 hb ho m1 (by omega) h2 (by omega) (by
    rw [m3, k3, hl, E_ins]
    have := two_copies' cur.toList ((FC.E enc l).drop (i * 2)) (enc x) (i * 2) ((l.length + 1) * 2) rfl (by rw [hD]; omega) (by rw [hD]; omega)
    rw [show i * 2 + 2 = (i + 1) * 2 by omega] at this
    rw [this, h4])
  rw [hl] at this
  exact this
end Go.Proofs.Yteoklaofbdfjlaa.Dc
