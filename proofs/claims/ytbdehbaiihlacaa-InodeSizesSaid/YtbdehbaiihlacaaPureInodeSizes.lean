/- InodeSizes: the pure part: a right file stays right in any size that may be; smaller and greater again, it has holes. -/
import Derived.Test.YtbdehbaiihlacaaInSizes
namespace Go.Proofs.Ytbdehbaiihlacaa.PInodeSizes
open Go.RowKit Go.Proofs.YtbdehbaiihlacaaW.PrintWords Go.Proofs.YtbdehbaiihlacaaW.PrintLast Go.Proofs.YtbdehbaiihlacaaW.PrintMore
set_option linter.unusedVariables false
theorem some_v_app (a b : List Int) : inode_some.v (a ++ b) = inode_some.v a ++ inode_some.v b := by unfold inode_some.v; exact List.filter_append _ _
theorem some_v_zeros (n : Nat) : inode_some.v (List.replicate n 0) = [] := by
  unfold inode_some.v; rw [List.filter_eq_nil_iff]; intro x hx; rw [List.eq_of_mem_replicate hx]; decide
theorem rpages_grow (p : List Int) (a : Int) (h : (p.length : Int) ≤ need a) : rpages p a = p ++ List.replicate ((need a).toNat - p.length) 0 := by
  unfold rpages; rw [if_neg (by omega)]
theorem gone_sum (p : List Int) (a : Int) : (inode_some.v (rpages p a)).length + (rgone p a).length = (inode_some.v p).length := by
  unfold rpages rgone
  split
  · rw [← List.length_append, ← some_v_app, List.take_append_drop]
  · rw [some_v_app, some_v_zeros]; simp
theorem refs_f (ino kind links size up : Int) (p : List Int) (n : List S62) (hp : p.length ≤ 1000) : inode_Refs.f ino kind links size up p n = some (inode_some.v p) := by
  unfold inode_Refs.f inode_some.f; rw [if_pos (by omega), Option.bind_some]
theorem loop_ev (gone y x p : List Int) (ino kind links size up : Int) (n : List S62) (ino' kind' links' size' up' : Int) (n' : List S62) (hy : y.length ≤ 1000) (hxl : x.length ≤ 1000) (hp : p.length ≤ 1000) (m : Nat) (hxy : y = x ++ List.replicate m 0)
    (hs : (inode_some.v x).length + gone.length = (inode_some.v p).length) (hg : gone.length ≤ 1000) (d : Nat) : ∀ (i : Nat), i ≤ y.length → y.length - i = d →
    Ev (fun k => sumplaw14_InodeSizes.l0 k gone y (y.length : Int) (i : Int) ino kind links size up p n ino' kind' links' size' up' x n') true := by
  have hv : (inode_some.v x).length ≤ x.length := List.length_filter_le _ _
  induction d with
  | zero =>
    intro i h1 hd
    obtain rfl : i = y.length := by omega
    refine Ev.step (f := fun _ => some true) (fun k => ?_) (Ev.now true)
    rw [sumplaw14_InodeSizes.l0, if_neg (by omega), refs_f _ _ _ _ _ _ _ hxl, Option.bind_some, refs_f _ _ _ _ _ _ _ hp, Option.bind_some, Q.wrap64_in (by omega) (by omega)]
    congr 1
    rw [beq_iff_eq]; omega
  | succ d ih =>
    intro i h1 hd
    have hi : i < y.length := by omega
    refine Ev.step (fun k => ?_) (ih (i + 1) (by omega) (by omega))
    have e1 : rd y (i : Int) = (x ++ List.replicate m 0)[i]'(by rw [← hxy]; exact hi) := by rw [Q.rd_get y i hi]; simp only [hxy]
    rw [sumplaw14_InodeSizes.l0, if_pos (by omega), if_pos (by omega), if_pos (by omega), e1, Q.wrap64_in (by omega) (by omega)]
    rw [show (i : Int) + 1 = ((i + 1 : Nat) : Int) by omega]
    by_cases c : (i : Int) < (x.length : Int)
    · rw [if_pos c, if_pos (by rw [Q.rd_get x i (by omega), List.getElem_append_left (by omega)]), if_neg (by omega)]
    · rw [if_neg c, if_pos (by omega), if_pos (by rw [List.getElem_append_right (by omega)]; simp)]
theorem law (x0 : S39) (a1 : Int) (a2 : Int) (g0 : G39 x0) (w1 : (Lit.int .i64 a1).wf = true) (w2 : (Lit.int .i64 a2).wf = true) : ∃ k, sumplaw14_InodeSizes.f k x0.f0 x0.f1 x0.f2 x0.f3 x0.f4 x0.f5 x0.f6 a1 a2 = some true := by
  obtain ⟨ino, kind, links, size, up, p, n⟩ := x0
  have hsz := Q.wf_i64 g0.2.2.2.1
  have hnl : n.length ≤ 9223372036854775807 := g0.2.2.2.2.2.2.1
  simp only at hsz
  refine Ev.rounds (g := fun k => sumplaw14_InodeSizes.f k ino kind links size up p n a1 a2) ?_
  unfold sumplaw14_InodeSizes.f
  have haw : Ev (fun k => sumplaw14_awake.f k) true := Ev.of (fun k => sumplaw14_awake.mono k) awake_true
  refine Ev.bind (g := fun k => sumplaw14_awake.f k) haw ?_
  have ht : Ev (fun k => sumplaw14_InodeSizes.j0 k a1 a2 true ino kind links size up p n) true := Ev.step (fun k => by rw [sumplaw14_InodeSizes.j0, if_pos rfl]) (Ev.now true)
  obtain ⟨b, hb, hbt⟩ := few_ev ino kind links size up p n hnl
  simp only [if_true]
  refine Ev.bind (g := fun k => sumplaw14_Few.f k ino kind links size up p n) hb ?_
  cases b with
  | false => simpa using ht
  | true =>
    obtain ⟨hp, hn, _⟩ := hbt rfl
    have hR : Ev (fun k => inode_Right.f k ino kind links size up p n) (right ino kind links size up p.length n.length) := Ev.step (fun k => right_f k ino kind links size up p n (by omega) (by omega)) (Ev.now _)
    simp only [if_true]
    refine Ev.bind (g := fun k => inode_Right.f k ino kind links size up p n) hR ?_
    by_cases c : right ino kind links size up p.length n.length = true
    · simp only [if_pos c]
      by_cases c1 : kind = 1
      · simp only [if_pos c1]
        by_cases c2 : a1 < 0
        · simpa only [if_pos c2] using ht
        by_cases c3 : a1 > 16384
        · simpa only [if_neg c2, if_pos c3] using ht
        by_cases c4 : a2 < a1
        · simpa only [if_neg c2, if_neg c3, if_pos c4] using ht
        by_cases c5 : a2 > 16384
        · simpa only [if_neg c2, if_neg c3, if_neg c4, decide_eq_true c5] using ht
        simp only [if_neg c2, if_neg c3, if_neg c4, decide_eq_false c5]
        subst c1
        have l1 := rpages_len p a1 (by omega)
        have l2 := rpages_len (rpages p a1) a2 (by omega)
        have b1 := need_rng a1 (by omega)
        have b2 := need_rng a2 (by omega)
        have hm := need_mono (show a1 ≤ a2 by omega)
        have hc := c
        unfold right at hc
        by_cases q1 : isNode ino = true
        · rw [if_pos q1] at hc
          by_cases q2 : links < 0 ∨ links > 16
          · rw [if_pos q2] at hc; cases hc
          · rw [if_neg q2, if_pos rfl] at hc
            obtain ⟨u0, n0, _, _, _⟩ := of_decide_eq_true hc
            have r1 : right ino 1 links a1 up (rpages p a1).length n.length = true := by
              unfold right; rw [if_pos q1, if_neg q2, if_pos rfl]; exact decide_eq_true ⟨u0, n0, by omega, by omega, l1⟩
            have r2 : right ino 1 links a2 up (rpages (rpages p a1) a2).length n.length = true := by
              unfold right; rw [if_pos q1, if_neg q2, if_pos rfl]; exact decide_eq_true ⟨u0, n0, by omega, by omega, l2⟩
            have hg0 : rgone (rpages p a1) a2 = [] := by unfold rgone; rw [if_neg (by omega)]
            have hxy : rpages (rpages p a1) a2 = rpages p a1 ++ List.replicate ((need a2).toNat - (rpages p a1).length) 0 := rpages_grow _ _ (by omega)
            have hgs := gone_sum p a1
            have hgl : (inode_some.v p).length ≤ p.length := List.length_filter_le _ _
            have hfin := loop_ev (rgone p a1) (rpages (rpages p a1) a2) (rpages p a1) p ino 1 links size up n ino 1 links a1 up n (by omega) (by omega) (by omega) _ hxy hgs (by omega) (rpages (rpages p a1) a2).length 0 (by omega) (by omega)
            have hj1 : Ev (fun k => sumplaw14_InodeSizes.j1 k (rgone p a1) false ino 1 links size up p n ino 1 links a1 up (rpages p a1) n ino 1 links a2 up (rpages (rpages p a1) a2) n) true :=
              Ev.step (fun k => by rw [sumplaw14_InodeSizes.j1, if_neg (by decide)]; rfl) hfin
            have e1 : ∀ k, 70 ≤ k → inode_Resize.f k ino 1 links size up p n a1 = some (ino, 1, links, a1, up, rpages p a1, n, rgone p a1) := fun k hk => by
              rw [resize_f _ _ _ _ _ _ _ _ (by omega) (by omega) k hk]; unfold rs; rw [if_neg (by omega)]
            have e2 : ∀ k, 70 ≤ k → inode_Resize.f k ino 1 links a1 up (rpages p a1) n a2 = some (ino, 1, links, a2, up, rpages (rpages p a1) a2, n, rgone (rpages p a1) a2) := fun k hk => by
              rw [resize_f _ _ _ _ _ _ _ _ (by omega) (by omega) k hk]; unfold rs; rw [if_neg (by omega)]
            obtain ⟨K, hK⟩ := hj1
            refine ⟨K + 100, fun k hk => ?_⟩
            obtain ⟨k, rfl⟩ : ∃ m, k = m + 1 := ⟨k - 1, by omega⟩
            obtain ⟨k', rfl⟩ : ∃ m, k = m + 1 := ⟨k - 1, by omega⟩
            have hKk := hK (k' + 1) (by omega)
            simp only at hKk
            simp only
            rw [sumplaw14_InodeSizes.j0, if_neg (by decide), e1 _ (by omega), Option.bind_some, e2 _ (by omega), Option.bind_some]
            simp only
            rw [right_f k' _ _ _ _ _ _ _ (by omega) (by omega), r1, Option.bind_some, if_pos rfl, right_f k' _ _ _ _ _ _ _ (by omega) (by omega), r2, Option.bind_some, if_pos rfl, hg0, if_neg (by simp)]
            have hne : (a2 != a2) = false := bne_self_eq_false _
            rw [hne]
            exact hKk
        · rw [if_neg q1] at hc; cases hc
      · simpa only [if_neg c1] using ht
    · simpa only [if_neg c] using ht
end Go.Proofs.Ytbdehbaiihlacaa.PInodeSizes
