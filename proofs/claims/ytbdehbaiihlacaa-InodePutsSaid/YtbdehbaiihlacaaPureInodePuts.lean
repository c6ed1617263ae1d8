/- InodePuts: the pure part: a page that is put stands there, the others as they were. -/
import Derived.Test.YtbdehbaiihlacaaInPuts2
namespace Go.Proofs.Ytbdehbaiihlacaa.PInodePuts
open Go.RowKit Go.Proofs.YtbdehbaiihlacaaW.PrintWords Go.Proofs.YtbdehbaiihlacaaW.PrintLast Go.Proofs.YtbdehbaiihlacaaW.PrintMore
set_option linter.unusedVariables false
/-- Whether a put does nothing. -/
def off (i size : Int) : Prop := size < 1 ∨ size > 16384 ∨ i < 0 ∨ i ≥ need size
instance (i size : Int) : Decidable (off i size) := by unfold off; infer_instance
def pt (ino kind links size up : Int) (p : List Int) (n : List S62) (i r s : Int) : Int × Int × Int × Int × Int × List Int × (List (S62)) × Int :=
  if off i s then (ino, kind, links, size, up, p, n, 0) else (ino, kind, links, s, up, (rpages p s).set i.toNat r, n, rd (rpages p s) i)
theorem put_f (ino kind links size up : Int) (p : List Int) (n : List S62) (i r s : Int) (hp : p.length ≤ 1000) (hn : n.length ≤ 1000) (k : Nat) (hk : 70 ≤ k) : inode_Put.f (k + 1) ino kind links size up p n i r s = some (pt ino kind links size up p n i r s) := by
  have ht : inode_Put.j0 (k + 1) i r s true ino kind links size up p n = some (ino, kind, links, size, up, p, n, 0) := by
    rw [inode_Put.j0, if_pos rfl, copy_f _ _ _ _ _ _ _ hp hn, Option.bind_some]
  unfold inode_Put.f pt
  by_cases c1 : s < 1
  · rw [if_pos c1, if_pos (show off i s from Or.inl c1)]; exact ht
  by_cases c2 : s > 16384
  · rw [if_neg c1, if_pos c2, if_pos (show off i s from Or.inr (Or.inl c2))]; exact ht
  by_cases c3 : i < 0
  · rw [if_neg c1, if_neg c2, if_pos c3, if_pos (show off i s from Or.inr (Or.inr (Or.inl c3)))]; exact ht
  rw [if_neg c1, if_neg c2, if_neg c3, need_f s (by omega) (by omega), Option.bind_some]
  by_cases c4 : i ≥ need s
  · rw [decide_eq_true c4, if_pos (show off i s from Or.inr (Or.inr (Or.inr c4)))]; exact ht
  · have ho : ¬ off i s := by rintro (h | h | h | h) <;> contradiction
    have hl := rpages_len p s (by omega)
    rw [decide_eq_false c4, if_neg ho, inode_Put.j0, if_neg (by decide), resize_f _ _ _ _ _ _ _ _ hp hn k hk, Option.bind_some]
    unfold rs
    rw [if_neg (show ¬ (s < 0 ∨ s > 16384) by omega)]
    simp only
    rw [if_pos (by omega), if_pos (by omega)]
theorem law (x0 : S39) (a1 : Int) (a2 : Int) (a3 : Int) (g0 : G39 x0) (w1 : (Lit.int .i64 a1).wf = true) (w2 : (Lit.int .i64 a2).wf = true) (w3 : (Lit.int .i64 a3).wf = true) : ∃ k, sumplaw14_InodePuts.f k x0.f0 x0.f1 x0.f2 x0.f3 x0.f4 x0.f5 x0.f6 a1 a2 a3 = some true := by
  obtain ⟨ino, kind, links, size, up, p, n⟩ := x0
  have hsz := Q.wf_i64 g0.2.2.2.1
  have hnl : n.length ≤ 9223372036854775807 := g0.2.2.2.2.2.2.1
  have hs3 := Q.wf_i64 w3
  simp only at hsz
  refine Ev.rounds (g := fun k => sumplaw14_InodePuts.f k ino kind links size up p n a1 a2 a3) ?_
  unfold sumplaw14_InodePuts.f
  have haw : Ev (fun k => sumplaw14_awake.f k) true := Ev.of (fun k => sumplaw14_awake.mono k) awake_true
  refine Ev.bind (g := fun k => sumplaw14_awake.f k) haw ?_
  obtain ⟨b, hb, hbt⟩ := few_ev ino kind links size up p n hnl
  simp only [if_true]
  refine Ev.bind (g := fun k => sumplaw14_Few.f k ino kind links size up p n) hb ?_
  cases b with
  | false => exact Ev.now true
  | true =>
    obtain ⟨hp, hn, _⟩ := hbt rfl
    simp only [if_true]
    rw [copy_f _ _ _ _ _ _ _ (by omega) (by omega)]
    simp only [Option.bind_some]
    have hput : Ev (fun k => inode_Put.f k ino kind links size up p n a1 a2 a3) (pt ino kind links size up p n a1 a2 a3) := ⟨71, fun k hk => by
      obtain ⟨m, rfl⟩ : ∃ m, k = m + 1 := ⟨k - 1, by omega⟩
      exact put_f _ _ _ _ _ _ _ _ _ _ (by omega) (by omega) m (by omega)⟩
    refine Ev.bind (g := fun k => inode_Put.f k ino kind links size up p n a1 a2 a3) hput ?_
    have hsame : Ev (fun k => sumpref09_SameNode.f k ino kind links size up p n ino kind links size up p n) true := ⟨1001, fun k hk => by
      exact (sameNode_f _ _ _ _ _ _ _ _ _ _ _ _ _ _ (by omega) (by omega) k hk).trans (by rw [same_refl])⟩
    refine Ev.bind (g := fun k => sumpref09_SameNode.f k ino kind links size up p n ino kind links size up p n) hsame ?_
    simp only [if_true]
    have hoff : off a1 a3 → Ev (fun k => sumplaw14_InodePuts.j0 k a1 a2 a3 (pt ino kind links size up p n a1 a2 a3).2.2.2.2.2.2.2 true ino kind links size up p n (pt ino kind links size up p n a1 a2 a3).1 (pt ino kind links size up p n a1 a2 a3).2.1 (pt ino kind links size up p n a1 a2 a3).2.2.1 (pt ino kind links size up p n a1 a2 a3).2.2.2.1 (pt ino kind links size up p n a1 a2 a3).2.2.2.2.1 (pt ino kind links size up p n a1 a2 a3).2.2.2.2.2.1 (pt ino kind links size up p n a1 a2 a3).2.2.2.2.2.2.1) true := by
      intro ho
      unfold pt
      simp only [if_pos ho]
      refine Ev.step (f := fun k => (sumpref09_SameNode.f k ino kind links size up p n ino kind links size up p n).bind fun t256 => (some t256)) (fun k => by rw [sumplaw14_InodePuts.j0, if_pos rfl, if_pos rfl]) ?_
      exact Ev.bind (g := fun k => sumpref09_SameNode.f k ino kind links size up p n ino kind links size up p n) hsame (Ev.now true)
    by_cases c1 : a3 < 1
    · simpa only [if_pos c1] using hoff (Or.inl c1)
    by_cases c2 : a3 > 16384
    · simpa only [if_neg c1, if_pos c2] using hoff (Or.inr (Or.inl c2))
    by_cases c3 : a1 < 0
    · simpa only [if_neg c1, if_neg c2, if_pos c3] using hoff (Or.inr (Or.inr (Or.inl c3)))
    simp only [if_neg c1, if_neg c2, if_neg c3]
    rw [rneed_f a3 hs3.1 hs3.2]
    simp only [Option.bind_some]
    by_cases c4 : a1 ≥ need a3
    · simpa only [decide_eq_true c4] using hoff (Or.inr (Or.inr (Or.inr c4)))
    · have ho : ¬ off a1 a3 := by rintro (h | h | h | h) <;> contradiction
      have hl := rpages_len p a3 (by omega)
      have hb := need_rng a3 (by omega)
      simp only [decide_eq_false c4]
      unfold pt
      simp only [if_neg ho]
      refine Ev.step (f := fun k => (sumpref09_Resize.f k ino kind links size up p n a3).bind fun bt257 => (if (((rpages p a3).set a1.toNat a2).length : Int) = (bt257.2.2.2.2.2.1.length : Int) then (if 0 ≤ a1 then (if a1 < (bt257.2.2.2.2.2.1.length : Int) then (if rd (rpages p a3) a1 = (rd bt257.2.2.2.2.2.1 a1) then (if a1 < (((rpages p a3).set a1.toNat a2).length : Int) then (if (rd ((rpages p a3).set a1.toNat a2) a1) = a2 then ((sumpref09_SameNode.f k ino kind links a3 up ((rpages p a3).set a1.toNat a2) n bt257.1 bt257.2.1 bt257.2.2.1 bt257.2.2.2.1 bt257.2.2.2.2.1 (bt257.2.2.2.2.2.1.set (a1 : Int).toNat a2) bt257.2.2.2.2.2.2.1).bind fun t275 => (some t275)) else (some false)) else (none)) else (some false)) else (none)) else (none)) else (some false))) (fun k => by rw [sumplaw14_InodePuts.j0, if_neg (by decide)]) ?_
      refine Ev.bind (g := fun k => sumpref09_Resize.f k ino kind links size up p n a3) (rresize_ev ino kind links size up p n a3 (by omega) (by omega)) ?_
      unfold rs
      simp only [if_neg (show ¬ (a3 < 0 ∨ a3 > 16384) by omega), List.length_set, if_true]
      have hrd : rd ((rpages p a3).set a1.toNat a2) a1 = a2 := by
        have e : a1 = ((a1.toNat : Nat) : Int) := by omega
        have h2 : rd ((rpages p a3).set a1.toNat a2) ((a1.toNat : Nat) : Int) = a2 := by rw [Q.rd_get _ _ (by rw [List.length_set]; omega)]; simp
        rwa [← e] at h2
      simp only [if_pos (show 0 ≤ a1 by omega), if_pos (show a1 < ((rpages p a3).length : Int) by omega), if_pos hrd]
      have hsame2 : Ev (fun k => sumpref09_SameNode.f k ino kind links a3 up ((rpages p a3).set a1.toNat a2) n ino kind links a3 up ((rpages p a3).set a1.toNat a2) n) true := ⟨1001, fun k hk => by
        exact (sameNode_f _ _ _ _ _ _ _ _ _ _ _ _ _ _ (by rw [List.length_set]; omega) (by omega) k hk).trans (by rw [same_refl])⟩
      exact Ev.bind (g := fun k => sumpref09_SameNode.f k ino kind links a3 up ((rpages p a3).set a1.toNat a2) n ino kind links a3 up ((rpages p a3).set a1.toNat a2) n) hsame2 (Ev.now true)
end Go.Proofs.Ytbdehbaiihlacaa.PInodePuts
