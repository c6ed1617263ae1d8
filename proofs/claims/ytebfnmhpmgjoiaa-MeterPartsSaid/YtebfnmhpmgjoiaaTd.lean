/- sorting floats: the reference's insertion: appends to views, cuts. -/
import Derived.Test.YtebfnmhpmgjoiaaTc
namespace Go.Proofs.Ytebfnmhpmgjoiaa.Fl
open Go.RowKit FT SM Go.Proofs.YtebfnmhpmgjoiaaW.PrintWords Go.Proofs.YtebfnmhpmgjoiaaW.PrintMore
set_option linter.unusedVariables false
set_option linter.unusedSimpArgs false
theorem cutmid (A : Option Addr) (n c k : Nat) (hk : k ≤ c) (W : World) : (Instr.slice 31 (.slice A n c) none (some (.int .i64 (k : Int))) (some (.int .i64 (k : Int)))).run Try.prog W = .ok (.slice A k k) W := by
  obtain ⟨i, hi, hz, hs, hb⟩ := inf22
  have h1 : (0 : Int) ≤ (k : Int) ∧ (k : Int) ≤ (c : Int) := ⟨by omega, by omega⟩
  have h2 : (0 : Int) ≤ (k : Int) ∧ (k : Int) ≤ (k : Int) := ⟨by omega, by omega⟩
  have add0 : A.map (·.add 0) = A := by
    cases A with
    | none => rfl
    | some a => cases a; rfl
  simp [Instr.slice, Instr.sliceBounds, Instr.sliceBound, run_underlying Try.underlying31, asIntOf, sizeOf, typeInfo, hi, hs, add0]
  omega
theorem cutlow (A : Option Addr) (n c k : Nat) (hk : k ≤ n) (W : World) : (Instr.slice 31 (.slice A n c) (some (.int .i64 (k : Int))) none none).run Try.prog W = .ok (.slice (if c = k then A else A.map (·.add k)) (n - k) (c - k)) W := by
  obtain ⟨i, hi, hz, hs, hb⟩ := inf22
  have h1 : (0 : Int) ≤ (k : Int) ∧ (k : Int) ≤ (n : Int) := ⟨by omega, by omega⟩
  simp [Instr.slice, Instr.sliceBounds, Instr.sliceBound, run_underlying Try.underlying31, asIntOf, sizeOf, typeInfo, hi, hs]
  omega
/-- A row that is read: L stands there. -/
structure Ow (w : World) (A : Option Addr) (c : Nat) (L : List Nat) : Prop where
  len : L.length ≤ c
  cells : ∀ ad, A = some ad → At w ad L
  nil : A = none → L = [] ∧ c = 0
theorem Ow.below {w w' : World} {A : Option Addr} {c : Nat} {L : List Nat} (h : Ow w A c L) (hb : Below w.heap.size w w') : Ow w' A c L := ⟨h.len, fun ad ha => (h.cells ad ha).below hb, h.nil⟩
theorem Ow.drewN {w : World} {A : Option Addr} {c : Nat} {L : List Nat} (h : Ow w A c L) (m : Nat) : Ow (w.drewN m) A c L := ⟨h.len, fun ad ha => h.cells ad ha, h.nil⟩
theorem At.drop {w : World} {ad : Addr} {L : List Nat} (h : At w ad L) (k : Nat) : At w (ad.add k) (L.drop k) := fun j x hj => by
  rw [List.getElem?_drop] at hj
  have := h (k + j) x hj
  rwa [show (ad.add k).add j = ad.add (k + j) by simp only [Addr.add]; by_cases h1 : k = 0 <;> by_cases h2 : j = 0 <;> simp_all [Nat.add_assoc]]
theorem At.take {w : World} {ad : Addr} {L : List Nat} (h : At w ad L) (k : Nat) : At w ad (L.take k) := fun j x hj => by
  rw [List.getElem?_take] at hj
  by_cases hjk : j < k
  · rw [if_pos hjk] at hj; exact h j x hj
  · rw [if_neg hjk] at hj; cases hj
theorem At.of_cells {w : World} {g : Nat} {L Z : List Nat} (h : w.heap[g]? = some (.cells ((L ++ Z).map F).toArray 22 (0, 0))) : At w ⟨g, 0, none⟩ L := fun j x hj => by
  have hr : Rw w g (L ++ Z) := h
  have hjl : j < L.length := (List.getElem?_eq_some_iff.1 hj).1
  have := hr.cell j (by rw [List.length_append]; omega)
  rw [List.getD_eq_getElem?_getD, List.getElem?_append_left hjl, hj] at this
  rw [show (⟨g, 0, none⟩ : Addr).add j = ⟨g, j, none⟩ by simp [Addr.add]; omega]
  exact this
/-- append to a row without room: a new row. -/
theorem app_new (W : World) (A : Option Addr) (k : Nat) (old : List Nat) (ho : old.length = k) (hA : ∀ ad, A = some ad → At W ad old) (hN : A = none → k = 0) (ad : Addr) (new : List Nat) (m c : Nat) (hm : new.length = m) (hn : At W ad new) (h0 : 0 < m) (hs : k + m ≤ 1000000) :
    ∃ cap Z, (Builtin.append_ #[31, 31] 31 #[.slice A k k, .slice (some ad) m c]).run Try.prog W = .ok (.slice (some ⟨W.heap.size, 0, none⟩) (k + m) cap) (W.drew.alloc (.cells (((old ++ new) ++ Z).map F).toArray 22)) ∧ k + m ≤ cap := by
  obtain ⟨t, hi, hz, hs2, hby⟩ := inf22
  cases A with
  | none =>
    obtain rfl := hN rfl
    obtain rfl := List.eq_nil_of_length_eq_zero ho
    have h := run_append_nil (P := Try.prog) W 31 31 22 t (.float .f64 0) Try.underlying31 hi hz ad m c (new.map F) (by simp [hm, hs2]) hn.news h0 (by omega) (by rw [hby]; omega)
    rw [zeros] at h
    refine ⟨grownCap W m 0 22, List.replicate (grownCap W m 0 22 - m) 0, ?_, by rw [Nat.zero_add]; exact grownCap_ge _ _ _ _⟩
    rw [Nat.zero_add, h]
    congr 3
    simp
  | some a =>
    have h := run_append_grow (P := Try.prog) W 31 31 22 t (.float .f64 0) Try.underlying31 hi hz a k k (old.map F) (by simp [ho, hs2]) (hA a rfl).news ad m c (new.map F) (by simp [hm, hs2]) hn.news (by omega) (by omega) (by rw [hby]; exact growslice_fits (by omega) (by omega))
    rw [zeros] at h
    refine ⟨grownCap W (k + m) k 22, List.replicate (grownCap W (k + m) k 22 - (k + m)) 0, ?_, grownCap_ge _ _ _ _⟩
    rw [h]
    congr 3
    simp
/-- The two appends that put v at k. -/
theorem put_mem {w : World} {A : Option Addr} {c : Nat} {L : List Nat} (h : Ow w A c L) (v k : Nat) (hk : k ≤ L.length) (hsm : L.length ≤ 10000) :
    ∃ ad cap W2 cap3 Z, (Builtin.append_ #[31, 31] 31 #[.slice (some ⟨w.heap.size, 0, none⟩) 1 1, .slice (if c = k then A else A.map (·.add k)) (L.length - k) (c - k)]).run Try.prog (w.drew.alloc (.cells #[.float .f64 v] 22)) = .ok (.slice (some ad) (1 + (L.length - k)) cap) W2 ∧
      (Builtin.append_ #[31, 31] 31 #[.slice A k k, .slice (some ad) (1 + (L.length - k)) cap]).run Try.prog W2 = .ok (.slice (some ⟨W2.heap.size, 0, none⟩) (L.length + 1) cap3) (W2.drew.alloc (.cells (((L.take k ++ v :: L.drop k) ++ Z).map F).toArray 22)) ∧
      L.length + 1 ≤ cap3 ∧ Below w.heap.size w W2 := by
  have hb1 : Below w.heap.size w (w.drew.alloc (.cells #[.float .f64 v] 22)) := below_alloc (below_drew (Below.refl _ _)) _
  have hbox : At (w.drew.alloc (.cells #[.float .f64 v] 22)) ⟨w.heap.size, 0, none⟩ [v] := At.of_cells (Z := []) (blk_new w.drew _)
  have l1 : (L.drop k).length = L.length - k := List.length_drop
  have l2 : (L.take k).length = k := by rw [List.length_take]; omega
  have fin : ∀ (ad : Addr) (cap : Nat) (W2 : World), Below w.heap.size w W2 → At W2 ad (v :: L.drop k) → (Builtin.append_ #[31, 31] 31 #[.slice (some ⟨w.heap.size, 0, none⟩) 1 1, .slice (if c = k then A else A.map (·.add k)) (L.length - k) (c - k)]).run Try.prog (w.drew.alloc (.cells #[.float .f64 v] 22)) = .ok (.slice (some ad) (1 + (L.length - k)) cap) W2 → ∃ ad cap W2 cap3 Z, (Builtin.append_ #[31, 31] 31 #[.slice (some ⟨w.heap.size, 0, none⟩) 1 1, .slice (if c = k then A else A.map (·.add k)) (L.length - k) (c - k)]).run Try.prog (w.drew.alloc (.cells #[.float .f64 v] 22)) = .ok (.slice (some ad) (1 + (L.length - k)) cap) W2 ∧
      (Builtin.append_ #[31, 31] 31 #[.slice A k k, .slice (some ad) (1 + (L.length - k)) cap]).run Try.prog W2 = .ok (.slice (some ⟨W2.heap.size, 0, none⟩) (L.length + 1) cap3) (W2.drew.alloc (.cells (((L.take k ++ v :: L.drop k) ++ Z).map F).toArray 22)) ∧
      L.length + 1 ≤ cap3 ∧ Below w.heap.size w W2 := by
    intro ad cap W2 hb hat hr
    obtain ⟨cap3, Z, q1, q2⟩ := app_new W2 A k (L.take k) l2 (fun a ha => ((h.cells a ha).below hb).take k) (fun ha => by have := (h.nil ha).1; rw [this] at hk; simpa using hk) ad (v :: L.drop k) (1 + (L.length - k)) cap (by rw [List.length_cons, l1]; omega) hat (by omega) (by omega)
    rw [show k + (1 + (L.length - k)) = L.length + 1 by omega] at q1 q2
    exact ⟨ad, cap, W2, cap3, Z, hr, q1, q2, hb⟩
  by_cases hkl : k = L.length
  · have hd : L.drop k = [] := List.drop_eq_nil_of_le (by omega)
    rw [hd] at fin ⊢
    refine fin ⟨w.heap.size, 0, none⟩ 1 _ hb1 hbox ?_
    obtain ⟨t, hi, hz, hs, hb⟩ := inf22
    rw [show L.length - k = 0 by omega]
    cases (if c = k then A else A.map (·.add k)) with
    | none => simp [Builtin.append_, run_underlying Try.underlying31, sizeOf, typeInfo, hi, Builtin.lenOf, Builtin.firstCells, storeCells]
    | some a =>
      have hf := run_firstCells_some (P := Try.prog) (w.drew.alloc (.cells #[.float .f64 v] 22)) t.size 0 a 0 (c - k) [] (by simp) (by simp)
      simp [Builtin.append_, run_underlying Try.underlying31, sizeOf, typeInfo, hi, Builtin.lenOf, hf, storeCells]
  · cases A with
    | none => exact absurd (h.nil rfl).1 (by rintro rfl; simp at hk hkl; omega)
    | some a =>
      have hck : c ≠ k := by have := h.len; omega
      rw [if_neg hck] at fin ⊢
      have hat2 : At (w.drew.alloc (.cells #[.float .f64 v] 22)) (a.add k) (L.drop k) := ((h.cells a rfl).below hb1).drop k
      obtain ⟨cap, Z, q1, q2⟩ := app_new (w.drew.alloc (.cells #[.float .f64 v] 22)) (some ⟨w.heap.size, 0, none⟩) 1 [v] rfl (fun ad ha => by injection ha with ha; rw [← ha]; exact hbox) (fun ha => by cases ha) (a.add k) (L.drop k) (L.length - k) (c - k) l1 hat2 (by omega) (by omega)
      exact fin _ cap _ (below_alloc (below_drew hb1) _) (At.of_cells (Z := Z) (by simpa using blk_new (w.drew.alloc (.cells #[.float .f64 v] 22)).drew _)) q1
end Go.Proofs.Ytebfnmhpmgjoiaa.Fl
