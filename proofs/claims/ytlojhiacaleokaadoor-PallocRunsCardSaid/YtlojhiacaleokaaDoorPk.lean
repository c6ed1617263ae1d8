/- palloc: Taken.Use, where a page is put in. -/
import Derived.Test.YtlojhiacaleokaaDoorPj
import Derived.Deep.RegionLaw
import Derived.Lib.AppendZeros
namespace Go.Proofs.YtlojhiacaleokaaDoor.Pa
open Go.RowKit Go.Proofs.YtlojhiacaleokaaDoorW.PrintWords Go.Proofs.YtlojhiacaleokaaDoorW.PrintLast Go.Proofs.YtlojhiacaleokaaDoorW.PrintMore
set_option linter.unusedVariables false
set_option linter.unusedSimpArgs false
theorem TS.sm {w : World} {S : Nat → Prop} {t n : Nat} {L : List Nat} (h : TS w S t n L) : L.length ≤ 1048576 := Nat.le_trans (len_le n L h.sorted h.inn) h.n1
/-- An append whose run is known, at a step of a region that draws its order. -/
theorem step_append_run {P : Program} {w : World} {ops : Array Oper} {o : Oper} {a : Act} {K : Act → World → Prop} {Q : Exit → Act → World → Prop} {E : Prop} (hgd : o.guard = none) (s x : Operand) (t tn : TypeId)
    (ho : o.op = .call { callee := .builtin .append, args := #[s, x], argTypes := #[t, tn] }) (vs vx : Value) (hs : a.eval s = vs) (hx : a.eval x = vx)
    (v' : Value) (w' : World) (hr : (Builtin.append_ #[t, tn] o.type #[vs, vx]).run P w = .ok v' w') (h : K (a.put o.dst v') w') :
    if Region.wanted o (yielded ops a.tmps) = true then Oper.wp P o a w K Q else E := by
  have hw : Region.wanted o (yielded ops a.tmps) = true := by simp [Region.wanted, hgd]
  rw [if_pos hw]
  exact Lib.wp_append_run w s x t tn ho vs vx hs hx v' w' hr h
/-- Where the new row stands behind the two appends. -/
theorem use_mem {w : World} {S : Nat → Prop} {t n : Nat} {L : List Nat} {A : Option Addr} {c : Nat} (hV : Vw w S A c L) (h1 : w.heap[t]? = some (.cells #[.int .i64 (n : Int), .slice A L.length c] 38 (0, 0))) (hS : ∀ k, S k → k < w.heap.size) (hst : S t) (i k : Nat) (hk : k ≤ L.length) (hsm : L.length ≤ 1048576) :
    ∃ ad cap W2 cap3 cs, (Builtin.append_ #[22, 22] 22 #[.slice (some ⟨w.heap.size, 0, none⟩) 1 1, .slice (if c = k then A else A.map (·.add k)) (L.length - k) (c - k)]).run Tryd.prog (w.drew.alloc (.cells #[.int .i64 (i : Int)] 3)) = .ok (.slice (some ad) (1 + (L.length - k)) cap) W2 ∧
      (Builtin.append_ #[22, 22] 22 #[.slice A k k, .slice (some ad) (1 + (L.length - k)) cap]).run Tryd.prog W2 = .ok (.slice (some ⟨W2.heap.size, 0, none⟩) (L.length + 1) cap3) (W2.drew.alloc (.cells cs 3)) ∧
      L.length + 1 ≤ cap3 ∧ (∀ (j x : Nat), (L.take k ++ i :: L.drop k)[j]? = some x → cs[j]? = some (.int .i64 (x : Int))) ∧ Below w.heap.size w W2 ∧ w.heap.size < W2.heap.size := by
  have hr := hV.row
  have hlen := vals_len L
  rw [← hlen] at hr
  have hC0 := Kd.C_drop (c := c) hr (m := k) (by omega) (by rw [hlen]; exact hV.len)
  have hT0 := Kd.C_take hr (m := k) (by omega)
  have e1 : (vals L).drop k = vals (L.drop k) := by simp [vals]
  have e2 : (vals L).take k = vals (L.take k) := by simp [vals]
  have l1 : (L.drop k).length = L.length - k := List.length_drop
  have l2 : (L.take k).length = k := by rw [List.length_take]; omega
  rw [e1, vals_len, l1, show k * (Kd.int .i64).sz = k by show k * 1 = k; omega] at hC0
  rw [e2, vals_len, l2] at hT0
  have hb1 : Below w.heap.size w (w.drew.alloc (.cells #[.int .i64 (i : Int)] 3)) := below_alloc (below_drew (Below.refl _ _)) _
  obtain ⟨ad, cap, W2, r1, r2, r3⟩ := app_own (w.drew.alloc (.cells #[.int .i64 (i : Int)] 3)) w.heap.size i (blk_new w.drew _) _ _ (c - k) (L.drop k) l1 (Kd.C_below hC0 hb1) (by omega)
  have hz1 : (w.drew.alloc (.cells #[.int .i64 (i : Int)] 3)).heap.size = w.heap.size + 1 := by simp [World.alloc]
  have hk2 : ∀ j, j < w.heap.size → W2.heap[j]? = w.heap[j]? := fun j hj => (r3.block j (by omega) (by simp; omega)).trans (hb1.block j hj)
  have hT2 : Kd.C (Kd.int .i64) W2 A k (vals (L.take k)) := Kd.C_foot_neS (S := fun j => ¬ j < w.heap.size) (fun h => h) hT0 (fun a ha _ => by have := (hV.out a ha).2; simpa using this) W2 ⟨by have := r3.size; omega, fun j hj _ => hk2 j hj⟩
  have hAk : A = none → k = 0 := by
    intro ha
    have := hV.nil ha
    have := hV.len
    omega
  obtain ⟨cap3, cs, q1, q2, q3⟩ := app_view W2 A k (L.take k) l2 hT2 hAk ad (1 + (L.length - k)) cap (i :: L.drop k) (by rw [List.length_cons, l1]; omega) r2 (by omega) (by omega)
  have e3 : k + (1 + (L.length - k)) = L.length + 1 := by omega
  rw [e3] at q1 q2
  refine ⟨ad, cap, W2, cap3, cs, r1, q1, q2, q3, ⟨?_, ?_, ?_, by have := r3.size; omega, hk2⟩, by have := r3.size; omega⟩
  · exact r3.os
  · exact r3.tape
  · exact r3.output
/-- The object behind Use's and Give's store. -/
theorem TS.put {w W2 : World} {S : Nat → Prop} {t n : Nat} {L L' : List Nat} {A : Option Addr} {c : Nat} (h : TS w S t n L) (hS : ∀ k, S k → k < w.heap.size) (hB : Below w.heap.size w W2) (hlt : w.heap.size < W2.heap.size) (cap3 : Nat) (cs : Array Value) (hc3 : L'.length ≤ cap3) (hc : L'.length ≤ 1048576) (hcs : ∀ (j x : Nat), L'[j]? = some x → cs[j]? = some (.int .i64 (x : Int))) (hs : L'.Pairwise (· < ·)) (hi : In n L') (h0 : w.heap[t]? = some (.cells #[.int .i64 (n : Int), .slice A L.length c] 38 (0, 0))) :
    TS ((W2.drew.alloc (.cells cs 3)).setCell ⟨t, 1, none⟩ (.slice (some ⟨W2.heap.size, 0, none⟩) L'.length cap3)) S t n L' ∧ Fr t t w ((W2.drew.alloc (.cells cs 3)).setCell ⟨t, 1, none⟩ (.slice (some ⟨W2.heap.size, 0, none⟩) L'.length cap3)) := by
  have ht := h.lt
  have hne : W2.heap.size ≠ t := by omega
  have h1 := (hB.block t ht).trans h0
  have hb : Below W2.heap.size W2 (W2.drew.alloc (.cells cs 3)) := below_alloc (below_drew (Below.refl _ _)) _
  refine ⟨⟨⟨some ⟨W2.heap.size, 0, none⟩, cap3, ?_, ⟨hc3, ?_, ?_, fun h => by cases h⟩⟩, h.st, hs, hi, h.n1⟩, (((Fr.of hB).trans (Fr.of hb)).setb 1 _)⟩
  · have h2 := hb.block t (by omega)
    rw [heap_set (h2.trans h1)]
    rfl
  · refine C_of_cells (by omega) fun j x hj => ?_
    have hnew : ((W2.drew.alloc (.cells cs 3)).setCell ⟨t, 1, none⟩ (.slice (some ⟨W2.heap.size, 0, none⟩) L'.length cap3)).heap[W2.heap.size]? = some (.cells cs 3 (0, 0)) :=
      (Below.heap_setCell _ ⟨t, 1, none⟩ _ _ hne).trans (blk_new W2.drew _)
    have := cell_of_row _ W2.heap.size j _ _ _ hnew
    rw [show (⟨W2.heap.size, 0, none⟩ : Addr).add j = ⟨W2.heap.size, j, none⟩ by simp [Addr.add]; intro h0; omega, this, hcs j x hj]
  · intro ad ha
    injection ha with ha
    subst ha
    refine ⟨fun hs' => ?_, ?_⟩
    · have := hS _ hs'
      show False
      have h9 : W2.heap.size < w.heap.size := this
      omega
    · simp [World.alloc]
end Go.Proofs.YtlojhiacaleokaaDoor.Pa
