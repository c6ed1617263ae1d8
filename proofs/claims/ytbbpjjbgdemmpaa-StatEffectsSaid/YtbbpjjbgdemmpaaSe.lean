/- StatEffects: the pure part, and the walk. -/
import Derived.Test.YtbbpjjbgdemmpaaPStatEffectsx3
import Derived.Test.YtbbpjjbgdemmpaaQ
namespace Go.Proofs.Ytbbpjjbgdemmpaa.PStatEffects
open Go.RowKit Go.Proofs.YtbbpjjbgdemmpaaW.PrintWords Go.Proofs.Ytbbpjjbgdemmpaa.Q
set_option linter.unusedVariables false
set_option linter.unusedSimpArgs false
/-- Three counts of kinds. -/
def c1 (t : Int × Int × Int) (e : S61) : Int × Int × Int := if e.f0 = 7 then (wrap64 (t.1 + 1), t.2) else if e.f0 = 1 then (t.1, wrap64 (t.2.1 + 1), t.2.2) else if e.f0 = 8 ∨ e.f0 = 4 then (t.1, t.2.1, wrap64 (t.2.2 + 1)) else t
theorem rd61 (l : List S61) (i : Nat) (h : i < l.length) : rd_T61 l (i : Int) = l[i] := by
  simp [rd_T61, List.getD_eq_getElem?_getD, h]
theorem w_succ (n : Nat) (h : n < 4611686018427387904) : wrap64 ((n : Int) + 1) = ((n + 1 : Nat) : Int) := by rw [wrap64_in (by omega) (by omega)]; omega
theorem eff_loop (l : List S61) (hl : l.length < 4611686018427387904) : ∀ (d i k : Nat) (t : Int × Int × Int), l.length - i = d → i ≤ l.length → d < k →
    stat_Effects.l0 k l (l.length : Int) (i : Int) 0 0 t.1 0 t.2.1 t.2.2 = some (0, 0, ((l.drop i).foldl c1 t).1, 0, ((l.drop i).foldl c1 t).2.1, ((l.drop i).foldl c1 t).2.2) := by
  intro d
  induction d with
  | zero =>
    intro i k t h1 h2 h3
    obtain ⟨k, rfl⟩ : ∃ m, k = m + 1 := ⟨k - 1, by omega⟩
    rw [stat_Effects.l0, if_neg (by omega), List.drop_eq_nil_of_le (by omega)]; rfl
  | succ d ih =>
    intro i k t h1 h2 h3
    obtain ⟨k, rfl⟩ : ∃ m, k = m + 1 := ⟨k - 1, by omega⟩
    have hi : i < l.length := by omega
    have hw := w_succ i (by omega)
    have hr := ih (i + 1) k (c1 t l[i]) (by omega) (by omega) (by omega)
    rw [stat_Effects.l0, if_pos (by omega), if_pos (by omega), if_pos (by omega), rd61 l i hi, hw, List.drop_eq_getElem_cons hi, List.foldl_cons]
    unfold c1 at hr ⊢
    by_cases e7 : l[i].f0 = 7
    · rw [if_pos e7] at hr ⊢; rw [if_pos e7]; exact hr
    · rw [if_neg e7] at hr ⊢; rw [if_neg e7]
      by_cases e1 : l[i].f0 = 1
      · rw [if_pos e1] at hr ⊢; rw [if_pos e1]; exact hr
      · rw [if_neg e1] at hr ⊢; rw [if_neg e1]
        by_cases e8 : l[i].f0 = 8
        · rw [if_pos (Or.inl e8)] at hr ⊢; rw [if_pos e8]; exact hr
        · rw [if_neg e8]
          by_cases e4 : l[i].f0 = 4
          · rw [if_pos (Or.inr e4)] at hr ⊢; rw [if_pos e4]; exact hr
          · rw [if_neg (show ¬(l[i].f0 = 8 ∨ l[i].f0 = 4) from fun q => q.elim e8 e4)] at hr ⊢; rw [if_neg e4]; exact hr
theorem c1_add (t : Int × Int × Int) (e : S61) (h : 0 ≤ t.1 ∧ t.1 ≤ 1000 ∧ 0 ≤ t.2.1 ∧ t.2.1 ≤ 1000 ∧ 0 ≤ t.2.2 ∧ t.2.2 ≤ 1000) :
    c1 t e = (t.1 + (c1 (0, 0, 0) e).1, t.2.1 + (c1 (0, 0, 0) e).2.1, t.2.2 + (c1 (0, 0, 0) e).2.2) ∧ 0 ≤ (c1 (0, 0, 0) e).1 ∧ (c1 (0, 0, 0) e).1 ≤ 1 ∧ 0 ≤ (c1 (0, 0, 0) e).2.1 ∧ (c1 (0, 0, 0) e).2.1 ≤ 1 ∧ 0 ≤ (c1 (0, 0, 0) e).2.2 ∧ (c1 (0, 0, 0) e).2.2 ≤ 1 := by
  obtain ⟨x, y, z⟩ := t
  obtain ⟨h1, h2, h3, h4, h5, h6⟩ := h
  simp only at h1 h2 h3 h4 h5 h6
  have w0 : wrap64 (1 : Int) = 1 := wrap64_in (by omega) (by omega)
  have wx : wrap64 (x + 1) = x + 1 := wrap64_in (by omega) (by omega)
  have wy : wrap64 (y + 1) = y + 1 := wrap64_in (by omega) (by omega)
  have wz : wrap64 (z + 1) = z + 1 := wrap64_in (by omega) (by omega)
  unfold c1
  by_cases e7 : e.f0 = 7
  · simp [e7, wx, w0]
  · by_cases e1 : e.f0 = 1
    · simp [e1, wy, w0]
    · by_cases e8 : e.f0 = 8 ∨ e.f0 = 4
      · simp [e7, e1, e8, wz, w0]
      · simp [e7, e1, e8]
theorem fold_add : ∀ (m : List S61) (t : Int × Int × Int), (0 ≤ t.1 ∧ t.1 + m.length ≤ 1000 ∧ 0 ≤ t.2.1 ∧ t.2.1 + m.length ≤ 1000 ∧ 0 ≤ t.2.2 ∧ t.2.2 + m.length ≤ 1000) →
    m.foldl c1 t = (t.1 + (m.foldl c1 (0, 0, 0)).1, t.2.1 + (m.foldl c1 (0, 0, 0)).2.1, t.2.2 + (m.foldl c1 (0, 0, 0)).2.2) ∧ 0 ≤ (m.foldl c1 (0, 0, 0)).1 ∧ (m.foldl c1 (0, 0, 0)).1 ≤ m.length ∧ 0 ≤ (m.foldl c1 (0, 0, 0)).2.1 ∧ (m.foldl c1 (0, 0, 0)).2.1 ≤ m.length ∧ 0 ≤ (m.foldl c1 (0, 0, 0)).2.2 ∧ (m.foldl c1 (0, 0, 0)).2.2 ≤ m.length
  | [], t, h => by simp
  | e :: m, t, h => by
    rw [List.length_cons] at h
    obtain ⟨h1, h2, h3, h4, h5, h6⟩ := h
    obtain ⟨q1, q2, q3, q4, q5, q6, q7⟩ := c1_add t e ⟨h1, by omega, h3, by omega, h5, by omega⟩
    obtain ⟨r1, r2, r3, r4, r5, r6, r7⟩ := fold_add m (c1 t e) (by rw [q1]; exact ⟨by simp only; omega, by simp only; omega, by simp only; omega, by simp only; omega, by simp only; omega, by simp only; omega⟩)
    obtain ⟨s1, s2, s3, s4, s5, s6, s7⟩ := fold_add m (c1 (0, 0, 0) e) ⟨q2, by omega, q4, by omega, q6, by omega⟩
    rw [List.foldl_cons, List.foldl_cons, r1, s1, q1, List.length_cons]
    refine ⟨?_, by simp only; omega, by simp only; omega, by simp only; omega, by simp only; omega, by simp only; omega, by simp only; omega⟩
    simp only [Int.add_assoc]
theorem inner (l m : List S61) (hl : l.length ≤ 30) (a0 a1 a2 a3 a4 a5 b0 b1 b2 b3 b4 b5 : Int) (K i : Nat) (R : Bool) (p : Int × Int) (t : Int × Int × Int) (e : S61) (hi : i < l.length)
    (hK : ∀ k, K ≤ k → sumplaw39_StatEffects.l0 k l m (stat_Busiest.step l p e).1 (stat_Busiest.step l p e).2 l (l.length : Int) ((i + 1 : Nat) : Int) a0 a1 a2 a3 a4 a5 b0 b1 b2 b3 b4 b5 0 0 t.1 0 t.2.1 t.2.2 = some R) :
    ∀ (d j : Nat) (n : Int) (k : Nat), l.length - j = d → j ≤ l.length → n = stat_Busiest.cnt (l.take j) e.f1 → K + d + 1 ≤ k →
    sumplaw39_StatEffects.l1 k l m p.1 p.2 n l (l.length : Int) (i : Int) l (l.length : Int) (j : Int) a0 a1 a2 a3 a4 a5 b0 b1 b2 b3 b4 b5 0 0 t.1 0 t.2.1 t.2.2 e.f0 e.f1 e.f2 e.f3 e.f4 e.f5 e.f6 e.f7 e.f8 = some R := by
  intro d
  induction d with
  | zero =>
    intro j n k h1 h2 hn h3
    obtain ⟨k, rfl⟩ : ∃ q, k = q + 1 := ⟨k - 1, by omega⟩
    obtain rfl : j = l.length := by omega
    rw [List.take_length] at hn
    have h4 := hK k (by omega)
    have hw := w_succ i (by omega)
    unfold stat_Busiest.step at h4
    rw [← hn] at h4
    rw [sumplaw39_StatEffects.l1, if_neg (by omega), hw]
    by_cases c : p.2 < n
    · rw [if_pos c] at h4; rw [if_pos c]; exact h4
    · rw [if_neg c] at h4; rw [if_neg c]; exact h4
  | succ d ih =>
    intro j n k h1 h2 hn h3
    obtain ⟨k, rfl⟩ : ∃ q, k = q + 1 := ⟨k - 1, by omega⟩
    have hj : j < l.length := by omega
    have hw := w_succ j (by omega)
    have hb := stat_Busiest.cnt_le (l.take j) e.f1
    have hbl : (l.take j).length ≤ 30 := by rw [List.length_take]; omega
    have hsn := congrFun (stat_Busiest.cnt_snoc (l.take j) l[j] (by omega)) e.f1
    have htk : l.take (j + 1) = l.take j ++ [l[j]] := List.take_succ_eq_append_getElem hj
    rw [← htk] at hsn
    rw [sumplaw39_StatEffects.l1, if_pos (by omega), if_pos (by omega), if_pos (by omega), rd61 l j hj, hw]
    by_cases c : l[j].f1 = e.f1
    · rw [if_pos c]
      refine ih (j + 1) _ k (by omega) (by omega) ?_ (by omega)
      rw [hn, ← hsn, c]; simp
    · rw [if_neg c]
      refine ih (j + 1) _ k (by omega) (by omega) ?_ (by omega)
      rw [hn, ← hsn]
      show _ = if e.f1 = l[j].f1 then _ else _
      rw [if_neg (Ne.symm c)]
theorem wfI {x : Int} (h : (Lit.int .i64 x).wf = true) : wrap64 x = x := by
  have := wf_i64 h
  exact wrap64_in (by omega) (by omega)
theorem outer (l m : List S61) (hl : l.length ≤ 30) (hm : m.length ≤ 30) (hok : stat_Busiest.ok l = true) (a0 a1 a2 a3 a4 a5 b0 b1 b2 b3 b4 b5 : Int) (u0 : (Lit.int .i64 a0).wf = true) (u1 : (Lit.int .i64 a1).wf = true) (u2 : (Lit.int .i64 a2).wf = true) (u3 : (Lit.int .i64 a3).wf = true) (u4 : (Lit.int .i64 a4).wf = true) (u5 : (Lit.int .i64 a5).wf = true) :
    ∀ (d i k : Nat) (p : Int × Int) (t : Int × Int × Int), l.length - i = d → i ≤ l.length → p = (l.take i).foldl (stat_Busiest.step l) (0, 0) → t = (l.take i).foldl c1 (0, 0, 0) → 200 + d * 50 ≤ k →
    sumplaw39_StatEffects.l0 k l m p.1 p.2 l (l.length : Int) (i : Int) a0 a1 a2 a3 a4 a5 b0 b1 b2 b3 b4 b5 0 0 t.1 0 t.2.1 t.2.2 = some true := by
  intro d
  induction d with
  | zero =>
    intro i k p t h1 h2 hp ht h3
    obtain ⟨k, rfl⟩ : ∃ q, k = q + 1 := ⟨k - 1, by omega⟩
    obtain rfl : i = l.length := by omega
    rw [List.take_length] at hp ht
    have hB : stat_Busiest.f l = some p := by unfold stat_Busiest.f; rw [if_pos hok, hp]
    have hE : ∀ (x : List S61), x.length ≤ 60 → stat_Effects.f k x = some (0, 0, (x.foldl c1 (0, 0, 0)).1, 0, (x.foldl c1 (0, 0, 0)).2.1, (x.foldl c1 (0, 0, 0)).2.2) := by
      intro x hx
      have := eff_loop x (by omega) x.length 0 k (0, 0, 0) (by omega) (by omega) (by omega)
      rw [List.drop_zero] at this
      exact this
    have fl := fold_add l (0, 0, 0) ⟨by simp, by simp; omega, by simp, by simp; omega, by simp, by simp; omega⟩
    have fm := fold_add m (0, 0, 0) ⟨by simp, by simp; omega, by simp, by simp; omega, by simp, by simp; omega⟩
    obtain ⟨-, l1, l2, l3, l4, l5, l6⟩ := fl
    obtain ⟨-, m1, m2, m3, m4, m5, m6⟩ := fm
    have fb := (fold_add m (l.foldl c1 (0, 0, 0)) ⟨l1, by omega, l3, by omega, l5, by omega⟩).1
    rw [← List.foldl_append] at fb
    have el := hE l (by omega)
    have em := hE m (by omega)
    have eb := hE (l ++ m) (by rw [List.length_append]; omega)
    rw [fb] at eb
    rw [← ht] at el eb l1 l2 l3 l4 l5 l6
    generalize m.foldl c1 (0, 0, 0) = u at *
    have v1 : wrap64 (t.1 + u.1) = t.1 + u.1 := wrap64_in (by omega) (by omega)
    have v2 : wrap64 (t.2.1 + u.2.1) = t.2.1 + u.2.1 := wrap64_in (by omega) (by omega)
    have v3 : wrap64 (t.2.2 + u.2.2) = t.2.2 + u.2.2 := wrap64_in (by omega) (by omega)
    have w0 : wrap64 (0 : Int) = 0 := wrap64_in (by omega) (by omega)
    rw [sumplaw39_StatEffects.l0, if_neg (by omega), hB, Option.bind_some, if_pos (by simp; omega), Option.bind_some, if_pos (by simp; omega), el, Option.bind_some]
    rw [if_pos (by simp), if_pos rfl, if_pos rfl, Option.bind_some, em, Option.bind_some]
    unfold stat_Add.f
    rw [Option.bind_some, List.nil_append, eb, Option.bind_some]
    rw [if_pos (by simp [v1, v2, v3, w0]), Option.bind_some, Option.bind_some]
    rw [if_pos (by simp [Int.add_comm]), Option.bind_some]
    simp [wfI u0, wfI u1, wfI u2, wfI u3, wfI u4, wfI u5]
  | succ d ih =>
    intro i k p t h1 h2 hp ht h3
    obtain ⟨k, rfl⟩ : ∃ q, k = q + 1 + 1 := ⟨k - 2, by omega⟩
    have hi : i < l.length := by omega
    have htk : l.take (i + 1) = l.take i ++ [l[i]] := List.take_succ_eq_append_getElem hi
    have go : ∀ t' : Int × Int × Int, t' = c1 t l[i] → sumplaw39_StatEffects.j2 (k + 1) l m p.1 p.2 l (l.length : Int) (i : Int) a0 a1 a2 a3 a4 a5 b0 b1 b2 b3 b4 b5 0 0 t'.1 0 t'.2.1 t'.2.2 l[i].f0 l[i].f1 l[i].f2 l[i].f3 l[i].f4 l[i].f5 l[i].f6 l[i].f7 l[i].f8 = some true := by
      intro t' ht'
      rw [sumplaw39_StatEffects.j2]
      refine inner l m hl a0 a1 a2 a3 a4 a5 b0 b1 b2 b3 b4 b5 (200 + d * 50) i true p t' l[i] hi (fun k' hk' => ?_) l.length 0 0 k (by omega) (by omega) (by simp [stat_Busiest.cnt]) (by omega)
      refine ih (i + 1) k' _ t' (by omega) (by omega) ?_ ?_ hk'
      · rw [htk, List.foldl_append, ← hp]; rfl
      · rw [htk, List.foldl_append, ← ht, ht']; rfl
    rw [sumplaw39_StatEffects.l0, if_pos (by omega), if_pos (by omega), if_pos (by omega), rd61 l i hi]
    by_cases e7 : l[i].f0 = 7
    · rw [if_pos e7]
      exact go (wrap64 (t.1 + 1), t.2) (by unfold c1; rw [if_pos e7])
    · rw [if_neg e7]
      by_cases e1 : l[i].f0 = 1
      · rw [if_pos e1]
        exact go (t.1, wrap64 (t.2.1 + 1), t.2.2) (by unfold c1; rw [if_neg e7, if_pos e1])
      · rw [if_neg e1]
        by_cases e8 : l[i].f0 = 8
        · rw [if_pos e8]
          exact go (t.1, t.2.1, wrap64 (t.2.2 + 1)) (by unfold c1; rw [if_neg e7, if_neg e1, if_pos (Or.inl e8)])
        · rw [if_neg e8]
          by_cases e4 : l[i].f0 = 4
          · rw [if_pos e4]
            exact go (t.1, t.2.1, wrap64 (t.2.2 + 1)) (by unfold c1; rw [if_neg e7, if_neg e1, if_pos (Or.inr e4)])
          · rw [if_neg e4]
            exact go t (by unfold c1; rw [if_neg e7, if_neg e1, if_neg (fun q => q.elim e8 e4)])
theorem few_loop (l : List S61) (hl : l.length < 4611686018427387904) : ∀ (d i k : Nat), l.length - i = d → i ≤ l.length → d < k → ∃ b, sumplaw09_Few.l0 k l l (l.length : Int) (i : Int) = some b ∧ (b = true → l.length ≤ 30) := by
  intro d
  induction d with
  | zero =>
    intro i k h1 h2 h3
    obtain ⟨k, rfl⟩ : ∃ q, k = q + 1 := ⟨k - 1, by omega⟩
    refine ⟨_, by rw [sumplaw09_Few.l0, if_neg (by omega)], fun h => ?_⟩
    have := of_decide_eq_true h; omega
  | succ d ih =>
    intro i k h1 h2 h3
    obtain ⟨k, rfl⟩ : ∃ q, k = q + 1 := ⟨k - 1, by omega⟩
    have hw := w_succ i (by omega)
    obtain ⟨b, hb, hb2⟩ := ih (i + 1) k (by omega) (by omega) (by omega)
    rw [sumplaw09_Few.l0, if_pos (by omega), if_pos (by omega), if_pos (by omega), hw]
    split
    · exact ⟨false, rfl, fun h => nomatch h⟩
    · split
      · exact ⟨false, rfl, fun h => nomatch h⟩
      · split
        · exact ⟨false, rfl, fun h => nomatch h⟩
        · exact ⟨b, hb, hb2⟩
theorem law (l m : List S61) (hl : l.length < 4611686018427387904) (hm : m.length < 4611686018427387904) (hwf : ∀ e ∈ l, (Lit.int .i64 e.f1).wf = true) (a0 a1 a2 a3 a4 a5 b0 b1 b2 b3 b4 b5 : Int) (u0 : (Lit.int .i64 a0).wf = true) (u1 : (Lit.int .i64 a1).wf = true) (u2 : (Lit.int .i64 a2).wf = true) (u3 : (Lit.int .i64 a3).wf = true) (u4 : (Lit.int .i64 a4).wf = true) (u5 : (Lit.int .i64 a5).wf = true) :
    ∃ k, sumplaw39_StatEffects.f k l m a0 a1 a2 a3 a4 a5 b0 b1 b2 b3 b4 b5 = some true := by
  refine ⟨l.length + m.length + 4000, ?_⟩
  obtain ⟨x, hx, hx2⟩ := few_loop l hl l.length 0 (l.length + m.length + 4000) (by omega) (by omega) (by omega)
  obtain ⟨y, hy, hy2⟩ := few_loop m hm m.length 0 (l.length + m.length + 4000) (by omega) (by omega) (by omega)
  obtain ⟨K, hK⟩ : ∃ K, l.length + m.length + 4000 = K + 1 := ⟨l.length + m.length + 3999, by omega⟩
  have ht : sumplaw39_StatEffects.j0 (l.length + m.length + 4000) l m true a0 a1 a2 a3 a4 a5 b0 b1 b2 b3 b4 b5 = some true := by
    rw [hK, sumplaw39_StatEffects.j0, if_pos rfl]
  unfold sumplaw39_StatEffects.f sumplaw39_awake.f sumplaw09_Few.f
  rw [Option.bind_some, if_pos rfl]
  rw [show ((0 : Nat) : Int) = 0 from rfl] at hx hy
  rw [hx, Option.bind_some]
  cases x with
  | false => rw [if_neg Bool.false_ne_true]; exact ht
  | true =>
    rw [if_pos rfl, hy, Option.bind_some]
    cases y with
    | false => exact ht
    | true =>
      have h30 := hx2 rfl
      have m30 := hy2 rfl
      have hok : stat_Busiest.ok l = true := by
        unfold stat_Busiest.ok
        rw [Bool.and_eq_true]
        exact ⟨List.all_eq_true.2 hwf, decide_eq_true (by omega)⟩
      have ho := outer l m h30 m30 hok a0 a1 a2 a3 a4 a5 b0 b1 b2 b3 b4 b5 u0 u1 u2 u3 u4 u5 l.length 0 K (0, 0) (0, 0, 0) (by omega) (by omega) (by simp) (by simp) (by omega)
      show sumplaw39_StatEffects.j0 (l.length + m.length + 4000) l m false a0 a1 a2 a3 a4 a5 b0 b1 b2 b3 b4 b5 = some true
      rw [hK, sumplaw39_StatEffects.j0, if_neg Bool.false_ne_true]
      exact ho
def G61 (x : S61) : Prop := (Lit.int .i64 x.f0).wf = true ∧ (Lit.int .i64 x.f1).wf = true ∧ (Lit.int .i64 x.f2).wf = true ∧ (Lit.int .i64 x.f3).wf = true ∧ (Lit.int .i64 x.f4).wf = true ∧ (Lit.int .i64 x.f5).wf = true ∧ x.f6.size ≤ maxLen ∧ x.f7.size ≤ maxLen ∧ (x.f8.length ≤ maxLen ∧ ∀ y3 ∈ x.f8, (Lit.int .u8 y3).wf = true)
def G56 (x : S56) : Prop := (Lit.int .i64 x.f0).wf = true ∧ (Lit.int .i64 x.f1).wf = true ∧ (Lit.int .i64 x.f2).wf = true ∧ (Lit.int .i64 x.f3).wf = true ∧ (Lit.int .i64 x.f4).wf = true ∧ (Lit.int .i64 x.f5).wf = true
instance : Inhabited S61 := ⟨z61⟩
instance : Inhabited S56 := ⟨z56⟩
theorem walkStatEffects (A0 : Option Addr) (c0 : Nat) (l0 : (List S61)) (A1 : Option Addr) (c1 : Nat) (l1 : (List S61)) (x2 : S56) (cs2 : List Value) (x3 : S56) (cs3 : List Value) (w : World) (hl0 : l0.length ≤ c0) (hr0 : Kd.C k61 w A0 l0.length l0) (g0 : (l0.length ≤ maxLen ∧ ∀ y1 ∈ l0, G61 y1)) (y0 : l0.length * 104 ≤ 140737488351232) (hl1 : l1.length ≤ c1) (hr1 : Kd.C k61 w A1 l1.length l1) (g1 : (l1.length ≤ maxLen ∧ ∀ y2 ∈ l1, G61 y2)) (y1 : l1.length * 104 ≤ 140737488351232) (K2 : k56.K w x2 cs2) (g2 : G56 x2) (K3 : k56.K w x3 cs3) (g3 : G56 x3) :
    Calls Try.prog 10 #[.slice A0 l0.length c0, .slice A1 l1.length c1, .agg cs2.toArray, .agg cs3.toArray] w fun e w' => e = .returned (.bool true) ∧ Below w.heap.size w w' := by
  have e2 := k56_open K2
  have e3 := k56_open K3
  subst e2
  subst e3
  obtain ⟨k, hk⟩ := law l0 l1 (by omega) (by omega) (fun e he => (g0.2 e he).2.1) x2.f0 x2.f1 x2.f2 x2.f3 x2.f4 x2.f5 x3.f0 x3.f1 x3.f2 x3.f3 x3.f4 x3.f5 g2.1 g2.2.1 g2.2.2.1 g2.2.2.2.1 g2.2.2.2.2.1 g2.2.2.2.2.2
  exact sumplaw39_StatEffects.calls k A0 c0 l0 A1 c1 l1 x2.f0 x2.f1 x2.f2 x2.f3 x2.f4 x2.f5 x3.f0 x3.f1 x3.f2 x3.f3 x3.f4 x3.f5 true w hr0 hl0 hr1 hl1 hk rfl
end Go.Proofs.Ytbbpjjbgdemmpaa.PStatEffects
