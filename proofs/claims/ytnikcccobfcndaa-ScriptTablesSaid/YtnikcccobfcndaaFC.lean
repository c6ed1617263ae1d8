/- Rows of plain structs (no row inside) as plain cells: R told by the block's cells, and back. No program in sight. -/
import Derived.Test.YtnikcccobfcndaaWWords
import Derived.Deep.AppendSrc
namespace Go.Proofs.Ytnikcccobfcndaa.FC
open Go.RowKit Go.Proofs.YtnikcccobfcndaaW.PrintWords
set_option linter.unusedVariables false
variable {α : Type}
structure Flat (d : Kd α) (enc : α → List Value) (sz : Nat) : Prop where
  size : d.sz = sz
  len : ∀ x, (enc x).length = sz
  one : ∀ x, ∀ v ∈ enc x, v.oneCell' = true
  M_of : ∀ {w base ok x cs}, d.M w base ok x cs → cs = enc x
  M_mk : ∀ w base ok x, d.M w base ok x (enc x)
  K_of : ∀ {w x cs}, d.K w x cs → cs = enc x
def E (enc : α → List Value) (l : List α) : List Value := l.flatMap enc
variable {enc : α → List Value} {sz : Nat} {d : Kd α} {e : Nat} {w : World} {base : Nat} {ok : Nat → Prop} {v : Value} {l : List α}
theorem E_nil : E enc ([] : List α) = [] := rfl
theorem E_cons (x : α) (l : List α) : E enc (x :: l) = enc x ++ E enc l := rfl
theorem E_append (a b : List α) : E enc (a ++ b) = E enc a ++ E enc b := List.flatMap_append
theorem E_one (x : α) : E enc [x] = enc x := by simp [E]
theorem E_len (h : ∀ x, (enc x).length = sz) (l : List α) : (E enc l).length = l.length * sz := by
  induction l with
  | nil => simp [E]
  | cons x t ih => rw [E_cons, List.length_append, h, ih, List.length_cons, Nat.add_mul]; omega
theorem E_take (h : ∀ x, (enc x).length = sz) (l : List α) (i : Nat) : E enc (l.take i) = (E enc l).take (i * sz) := by
  induction l generalizing i with
  | nil => simp [E]
  | cons x t ih =>
    cases i with
    | zero => simp [E]
    | succ i => rw [List.take_succ_cons, E_cons, E_cons, ih, List.take_append, h, show (i + 1) * sz - sz = i * sz by rw [Nat.add_mul]; omega, List.take_of_length_le (l := enc x) (by rw [h, Nat.add_mul]; omega)]
theorem E_drop (h : ∀ x, (enc x).length = sz) (l : List α) (i : Nat) : E enc (l.drop i) = (E enc l).drop (i * sz) := by
  induction l generalizing i with
  | nil => simp [E]
  | cons x t ih =>
    cases i with
    | zero => simp [E]
    | succ i => rw [List.drop_succ_cons, E_cons, ih, List.drop_append, h, show (i + 1) * sz - sz = i * sz by rw [Nat.add_mul]; omega, List.drop_eq_nil_of_le (as := enc x) (by rw [h, Nat.add_mul]; omega), List.nil_append]
theorem E_one' (h : ∀ x, ∀ v ∈ enc x, v.oneCell' = true) (l : List α) : ∀ v ∈ E enc l, v.oneCell' = true := by
  intro v hv
  obtain ⟨x, _, hx⟩ := List.mem_flatMap.1 hv
  exact h x v hx
theorem reps_E (F : Flat d enc sz) (l : List α) : Reps (d.M w base ok) d.sz l (E enc l) := by
  rw [F.size]
  refine ⟨E_len F.len l, fun j p hj => ?_⟩
  have hlt : j < l.length := (List.getElem?_eq_some_iff.1 hj).1
  have hp : l[j] = p := (List.getElem?_eq_some_iff.1 hj).2
  rw [← E_drop F.len, List.drop_eq_getElem_cons hlt, E_cons, hp, List.take_append_of_le_length (by rw [F.len]; omega), List.take_of_length_le (by rw [F.len]; omega)]
  exact F.M_mk _ _ _ _
theorem of_reps (F : Flat d enc sz) {cs : List Value} (h : Reps (d.M w base ok) d.sz l cs) : cs = E enc l := by
  rw [F.size] at h
  induction l generalizing cs with
  | nil =>
    have := h.1
    simp at this
    rw [this]; rfl
  | cons x t ih =>
    have h0 := F.M_of (h.2 0 x rfl)
    rw [Nat.zero_mul, List.drop_zero] at h0
    have h1 : Reps (d.M w base ok) sz t (cs.drop sz) := by
      refine ⟨by rw [List.length_drop, h.1, List.length_cons, Nat.add_mul]; omega, fun j p hj => ?_⟩
      have := h.2 (j + 1) p (by simpa using hj)
      rw [List.drop_drop, Nat.add_comm sz, ← Nat.succ_mul]; exact this
    rw [E_cons, ← ih h1, ← h0, List.take_append_drop]
theorem R_cells (F : Flat d enc sz) (h : Kd.R d e w base ok v l) : (v = .slice none 0 0 ∧ l = []) ∨
    ∃ g cap cur, v = .slice (some ⟨g, 0, none⟩) l.length cap ∧ base ≤ g ∧ ok g ∧ w.heap[g]? = some (.cells cur e (0, 0)) ∧ l.length ≤ cap ∧ cap ≤ maxLen ∧ cur.size = cap * sz ∧ cur.toList.take (l.length * sz) = E enc l := by
  obtain ⟨hok, inner, ho, hr⟩ := h
  have hi := of_reps F hr
  rcases ho.2 with ⟨rfl, hn⟩ | ⟨g, cap, cur, rfl, hb, hh, h1, h2, h3, h4⟩
  · exact .inl ⟨rfl, List.length_eq_zero_iff.1 hn⟩
  · exact .inr ⟨g, cap, cur, rfl, hb, hok g (by simp [Value.ownBlock]), hh, h1, h2, by rw [h3, F.size], by rw [← hi, ← h4, F.size]⟩
theorem cells_R (F : Flat d enc sz) (g cap : Nat) (cur : Array Value) (hb : base ≤ g) (hok : ok g) (hh : w.heap[g]? = some (.cells cur e (0, 0))) (h1 : l.length ≤ cap) (h2 : cap ≤ maxLen) (h3 : cur.size = cap * sz) (h4 : cur.toList.take (l.length * sz) = E enc l) :
    Kd.R d e w base ok (.slice (some ⟨g, 0, none⟩) l.length cap) l :=
  ⟨fun k hk => by
    have : g = k := by simpa [Value.ownBlock] using hk
    rw [← this]; exact hok, E enc l, ⟨by rw [F.size]; exact E_len F.len l, .inr ⟨g, cap, cur, rfl, hb, hh, h1, h2, by rw [F.size]; exact h3, by rw [F.size]; exact h4⟩⟩, reps_E F l⟩
/-- What is read of a row: its cells. -/
theorem C_cells (F : Flat d enc sz) {A : Option Addr} {n : Nat} (h : Kd.C d w A n l) (ad : Addr) (hA : A = some ad) : ∀ j u, (E enc l)[j]? = some u → w.cell? (ad.add j) = some u := by
  intro j u hj
  have hjl : j < l.length * sz := by
    have := (List.getElem?_eq_some_iff.1 hj).1
    rwa [E_len F.len] at this
  have hs : 0 < sz := by
    rcases Nat.eq_zero_or_pos sz with h0 | h0
    · rw [h0] at hjl; omega
    · exact h0
  have hq : j / sz < l.length := by rw [Nat.div_lt_iff_lt_mul hs]; exact hjl
  obtain ⟨ad', e1, hc⟩ := h.2.2 (by have h1 := h.1; rw [← h1]; exact Nat.lt_of_le_of_lt (Nat.zero_le _) hq)
  rw [hA] at e1
  obtain rfl := Option.some.inj e1
  obtain ⟨c, _, hk, hcell⟩ := hc (j / sz) _ (List.getElem?_eq_getElem hq)
  have hce := F.K_of hk
  have hm : j / sz * sz + j % sz = j := by rw [Nat.mul_comm]; exact Nat.div_add_mod j sz
  have := hcell (j % sz) u (by
    rw [hce]
    have h2 : (E enc (l.drop (j / sz)))[j % sz]? = some u := by rw [E_drop F.len, List.getElem?_drop, hm]; exact hj
    rw [List.drop_eq_getElem_cons hq, E_cons, List.getElem?_append_left (by rw [F.len]; exact Nat.mod_lt _ hs)] at h2
    exact h2)
  rw [F.size, hm] at this
  exact this
end Go.Proofs.Ytnikcccobfcndaa.FC
