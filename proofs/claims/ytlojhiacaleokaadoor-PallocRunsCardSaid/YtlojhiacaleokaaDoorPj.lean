/- palloc: appends to views, cuts. -/
import Derived.Test.YtlojhiacaleokaaDoorPh
import Derived.Laws.Append
namespace Go.Proofs.YtlojhiacaleokaaDoor.Pa
open Go.RowKit Go.Proofs.YtlojhiacaleokaaDoorW.PrintWords Go.Proofs.YtlojhiacaleokaaDoorW.PrintLast Go.Proofs.YtlojhiacaleokaaDoorW.PrintMore
set_option linter.unusedVariables false
set_option linter.unusedSimpArgs false
theorem info3 : (Tryd.prog.info? 3).map (fun i => (i.zero, i.size, i.bytes)) = some (some (.int .i64 0), 1, 8) := by kernel_rfl
theorem inf3 : ∃ i : TypeInfo, Tryd.prog.info? 3 = some i ∧ i.zero = some (.int .i64 0) ∧ i.size = 1 ∧ i.bytes = 8 := by
  obtain ⟨i, hi, hz⟩ := Option.map_eq_some_iff.1 info3
  simp only [Prod.mk.injEq] at hz
  exact ⟨i, hi, hz.1, hz.2.1, hz.2.2⟩
theorem add0 (A : Option Addr) : A.map (·.add 0) = A := by
  cases A with
  | none => rfl
  | some a => cases a; rfl
theorem cut3 (A : Option Addr) (n c k : Nat) (hk : k ≤ c) (W : World) : (Instr.slice 22 (.slice A n c) none (some (.int .i64 (k : Int))) (some (.int .i64 (k : Int)))).run Tryd.prog W = .ok (.slice A k k) W := by
  obtain ⟨i, hi, hz, hs, hb⟩ := inf3
  have h1 : (0 : Int) ≤ (k : Int) ∧ (k : Int) ≤ (c : Int) := ⟨by omega, by omega⟩
  have h2 : (0 : Int) ≤ (k : Int) ∧ (k : Int) ≤ (k : Int) := ⟨by omega, by omega⟩
  simp [Instr.slice, Instr.sliceBounds, Instr.sliceBound, run_underlying Tryd.underlying22, asIntOf, sizeOf, typeInfo, hi, hs, add0]
  omega
theorem cutlo (A : Option Addr) (n c k : Nat) (hk : k ≤ n) (W : World) : (Instr.slice 22 (.slice A n c) (some (.int .i64 (k : Int))) none none).run Tryd.prog W = .ok (.slice (if c = k then A else A.map (·.add k)) (n - k) (c - k)) W := by
  obtain ⟨i, hi, hz, hs, hb⟩ := inf3
  have h1 : (0 : Int) ≤ (k : Int) ∧ (k : Int) ≤ (n : Int) := ⟨by omega, by omega⟩
  simp [Instr.slice, Instr.sliceBounds, Instr.sliceBound, run_underlying Tryd.underlying22, asIntOf, sizeOf, typeInfo, hi, hs]
  omega
/-- Cells of a row that is read. -/
theorem cells_of {w : World} {A : Option Addr} {n : Nat} {l : List Nat} {a : Addr} (h : Kd.C (Kd.int .i64) w A n (vals l)) (ha : A = some a) (hl : l.length = n) : ∀ j u, (l.map (fun x : Nat => Value.int .i64 (x : Int)))[j]? = some u → w.cell? (a.add j) = some u := by
  intro j u hu
  rw [List.getElem?_map] at hu
  cases hj : l[j]? with
  | none => rw [hj] at hu; cases hu
  | some x =>
    rw [hj] at hu
    obtain ⟨hj1, hj2⟩ := List.getElem?_eq_some_iff.1 hj
    obtain ⟨ad, he, hc⟩ := Kd.at_int h (j : Int) (by omega) (by omega)
    rw [ha] at he
    injection he with he
    subst he
    rw [Int.toNat_natCast, vals_rd l j hj1, hj2] at hc
    rw [hc]
    simpa using hu
theorem C_of_cells {w : World} {ad : Addr} {l : List Nat} (hl : l.length ≤ 9223372036854775807) (h : ∀ (j x : Nat), l[j]? = some x → w.cell? (ad.add j) = some (.int .i64 (x : Int))) : Kd.C (Kd.int .i64) w (some ad) l.length (vals l) := by
  refine Kd.C_of_reads (d := (0 : Int)) ⟨vals_len l, hl, fun _ => ⟨ad, rfl, fun j hj => ?_⟩⟩
  rw [h j _ (List.getElem?_eq_getElem hj)]
  congr 1
  simp [vals, List.getD_eq_getElem?_getD, hj]
/-- Append to a row of one that is the call's own. -/
theorem app_own (W : World) (g0 : Nat) (i : Nat) (hg : W.heap[g0]? = some (.cells #[.int .i64 (i : Int)] 3 (0, 0))) (A : Option Addr) (m c : Nat) (l : List Nat) (hl : l.length = m) (hC : Kd.C (Kd.int .i64) W A m (vals l)) (hm : m ≤ 2000000) :
    ∃ ad cap W2, (Builtin.append_ #[22, 22] 22 #[.slice (some ⟨g0, 0, none⟩) 1 1, .slice A m c]).run Tryd.prog W = .ok (.slice (some ad) (1 + m) cap) W2 ∧ (∀ (j x : Nat), (i :: l)[j]? = some x → W2.cell? (ad.add j) = some (.int .i64 (x : Int))) ∧ W.grownBy W2 (some g0) := by
  obtain ⟨t, hi, hz, hs, hb⟩ := inf3
  cases A with
  | none =>
    have h0 : m = 0 := by
      rcases Nat.eq_zero_or_pos m with h0 | h0
      · exact h0
      · obtain ⟨ad, h, _⟩ := hC.2.2 h0
        cases h
    subst h0
    obtain rfl := List.eq_nil_of_length_eq_zero hl
    refine ⟨⟨g0, 0, none⟩, 1, W, ?_, ?_, World.grownBy.refl W _⟩
    · simp [Builtin.append_, run_underlying Tryd.underlying22, sizeOf, typeInfo, hi, Builtin.lenOf, Builtin.firstCells, storeCells]
    · intro j x hj
      cases j with
      | zero =>
        have : i = x := by simpa using hj
        subst this
        have := cell_of_row W g0 0 _ _ _ hg
        simpa [Addr.add] using this
      | succ j => simp at hj
  | some a =>
    have hown : W.ownsRow 0 3 1 (.slice (some ⟨g0, 0, none⟩) 1 1) 1 [.int .i64 (i : Int)] := ⟨by simp, .inr ⟨g0, 1, _, rfl, Nat.zero_le _, hg, by omega, by unfold maxLen; omega, by simp, by simp⟩⟩
    obtain ⟨v', w', h1, h2, h3, h4⟩ := run_append_own (P := Tryd.prog) W 0 22 22 3 t (.int .i64 0) 1 8 Tryd.underlying22 hi hz hs hb rfl (by decide) _ _ _ hown a m c _ (by simp [hl]) (cells_of hC rfl hl) (by
      intro u hu
      obtain ⟨x, _, rfl⟩ := List.mem_map.1 hu
      rfl) (by unfold maxLen; omega) (by omega) (Nat.zero_le _)
    rcases h2.2 with ⟨rfl, h5⟩ | ⟨g, cap, cur, rfl, _, hh, h5⟩
    · omega
    · refine ⟨⟨g, 0, none⟩, cap, w', h1, ?_, h3⟩
      intro j x hj
      refine h2.cells rfl j _ ?_
      cases j with
      | zero =>
        have : i = x := by simpa using hj
        subst this
        rfl
      | succ j =>
        have hj : l[j]? = some x := by simpa using hj
        simp [hj]
/-- Append to a view without room: a new row. -/
theorem app_view (W : World) (A : Option Addr) (k : Nat) (olds : List Nat) (ho : olds.length = k) (hC : Kd.C (Kd.int .i64) W A k (vals olds)) (hA : A = none → k = 0) (ad : Addr) (m c : Nat) (news : List Nat) (hl : news.length = m) (hn : ∀ (j x : Nat), news[j]? = some x → W.cell? (ad.add j) = some (.int .i64 (x : Int))) (hm : 0 < m) (hb : k + m ≤ 2000000) :
    ∃ cap cs, (Builtin.append_ #[22, 22] 22 #[.slice A k k, .slice (some ad) m c]).run Tryd.prog W = .ok (.slice (some ⟨W.heap.size, 0, none⟩) (k + m) cap) (W.drew.alloc (.cells cs 3)) ∧ k + m ≤ cap ∧ (∀ (j x : Nat), (olds ++ news)[j]? = some x → cs[j]? = some (.int .i64 (x : Int))) := by
  obtain ⟨t, hi, hz, hs, hby⟩ := inf3
  have hnews : ∀ j u, (news.map (fun x : Nat => Value.int .i64 (x : Int)))[j]? = some u → W.cell? (ad.add j) = some u := by
    intro j u hu
    rw [List.getElem?_map] at hu
    cases hj : news[j]? with
    | none => rw [hj] at hu; cases hu
    | some x => rw [hj] at hu; rw [hn j x hj]; simpa using hu
  cases A with
  | none =>
    obtain rfl := hA rfl
    obtain rfl := List.eq_nil_of_length_eq_zero ho
    have h := run_append_nil (P := Tryd.prog) W 22 22 3 t (.int .i64 0) Tryd.underlying22 hi hz ad m c _ (by simp [hl, hs]) hnews hm (by omega) (by rw [hby]; omega)
    refine ⟨_, _, by rw [Nat.zero_add]; exact h, by rw [Nat.zero_add]; exact grownCap_ge _ _ _ _, ?_⟩
    intro j x hj
    have hj : news[j]? = some x := by simpa using hj
    obtain ⟨hj1, hj2⟩ := List.getElem?_eq_some_iff.1 hj
    rw [Array.getElem?_append_left (by simpa using hj1)]
    simp [hj]
  | some a =>
    have h := run_append_grow (P := Tryd.prog) W 22 22 3 t (.int .i64 0) Tryd.underlying22 hi hz a k k (olds.map (fun x : Nat => Value.int .i64 (x : Int))) (by simp [ho, hs]) (cells_of hC rfl ho) ad m c _ (by simp [hl, hs]) hnews (by omega) (by omega) (by rw [hby]; exact growslice_fits (by omega) (by omega))
    refine ⟨_, _, h, grownCap_ge _ _ _ _, ?_⟩
    intro j x hj
    obtain ⟨hj1, hj2⟩ := List.getElem?_eq_some_iff.1 hj
    rw [List.length_append] at hj1
    rw [Array.getElem?_append_left (by simpa using hj1)]
    simp only [← List.toArray_appendList, List.append_toArray, ← List.map_append, List.getElem?_toArray, List.getElem?_map, hj, Option.map_some]
end Go.Proofs.YtlojhiacaleokaaDoor.Pa
