/- Inodes: what the reference's comparisons, Need and Resize compute. -/
import Derived.Test.YtbdehbaiihlacaaInDoes
namespace Go.Proofs.Ytbdehbaiihlacaa.PInodeDoes
open Go.RowKit Go.Proofs.YtbdehbaiihlacaaW.PrintWords Go.Proofs.YtbdehbaiihlacaaW.PrintLast Go.Proofs.YtbdehbaiihlacaaW.PrintMore
set_option linter.unusedVariables false
def ent (l : List S62) : List (List UInt8 × Int) := l.map fun x => (x.f0.toList, x.f1)
theorem rd62 (l : List S62) (i : Nat) (h : i < l.length) : rd_T62 l (i : Int) = l[i] := by
  unfold rd_T62; rw [Int.toNat_natCast, List.getD_eq_getElem?_getD, List.getElem?_eq_getElem h]; rfl
/-- A loop that compares entries. -/
theorem ent_loop {F : Nat → Int → Option Bool} {a b : List S62} (hl : a.length = b.length) (hb : a.length ≤ 9223372036854775806)
    (st : ∀ k (i : Int), F (k + 1) i = if i < (a.length : Int) then (if 0 ≤ i then (if i < (a.length : Int) then (if i < (b.length : Int) then (if (!((((rd_T62 a i).f0).toList) == (((rd_T62 b i).f0).toList)) || (!(((rd_T62 a i).f1) == ((rd_T62 b i).f1)))) = true then (some false) else (F k (wrap64 (i + 1)))) else (none)) else (none)) else (none)) else (some true))
    (k : Nat) (hk : a.length < k) : F k 0 = some (decide (ent a = ent b)) := by
  have la : (ent a).length = a.length := by simp [ent]
  have lb : (ent b).length = b.length := by simp [ent]
  have key : ∀ (i : Nat) (h : i < a.length) (h' : i < b.length), (ent a)[i]'(by omega) = (ent b)[i]'(by omega) ↔ ¬ ((!((((rd_T62 a (i : Int)).f0).toList) == (((rd_T62 b (i : Int)).f0).toList)) || (!(((rd_T62 a (i : Int)).f1) == ((rd_T62 b (i : Int)).f1)))) = true) := by
    intro i h h'
    rw [rd62 a i h, rd62 b i h']
    simp [ent]
  have h := Q.eq_loop (F := F) (a := ent a) (b := ent b) (by omega) (by omega) (fun k => by rw [st, if_neg (by omega)])
    (fun k i h h' e => by rw [st, if_pos (by omega), if_pos (by omega), if_pos (by omega), if_pos (by omega), if_neg ((key i (by omega) (by omega)).1 e), Q.wrap64_in (by omega) (by omega)])
    (fun k i h h' e => by rw [st, if_pos (by omega), if_pos (by omega), if_pos (by omega), if_pos (by omega), if_pos (Decidable.not_not.1 fun hn => e ((key i (by omega) (by omega)).2 hn))])
    a.length 0 k (by omega) (by omega) hk
  rw [List.drop_zero, List.drop_zero] at h
  exact h
theorem ent_len {a b : List S62} (h : ent a = ent b) : a.length = b.length := by
  have := congrArg List.length h
  simpa [ent] using this
theorem sameInts_f (a b : List Int) (h : a.length ≤ 9223372036854775806) (k : Nat) (hk : a.length < k) : sumpref01_SameInts.f k a b = some (decide (a = b)) := by
  unfold sumpref01_SameInts.f
  by_cases c : a.length = b.length
  · rw [if_pos (by omega)]
    exact Q.eq_loop_int (F := fun k i => sumpref01_SameInts.l0 k a b (a.length : Int) i) c h (fun k i => by simp only [sumpref01_SameInts.l0]) k hk
  · rw [if_neg (by omega)]; congr 1; rw [eq_comm, decide_eq_false_iff_not]; exact fun e => c (by rw [e])
theorem sameEntries_f (a b : List S62) (h : a.length ≤ 9223372036854775806) (k : Nat) (hk : a.length < k) : sumpref09_SameEntries.f k a b = some (decide (ent a = ent b)) := by
  unfold sumpref09_SameEntries.f
  by_cases c : a.length = b.length
  · rw [if_pos (by omega)]
    exact ent_loop (F := fun k i => sumpref09_SameEntries.l0 k a b (a.length : Int) i) c h (fun k i => by simp only [sumpref09_SameEntries.l0]) k hk
  · rw [if_neg (by omega)]; congr 1; rw [eq_comm, decide_eq_false_iff_not]; exact fun e => c (ent_len e)
def sameN (ino kind links size up : Int) (p : List Int) (n : List S62) (ino' kind' links' size' up' : Int) (p' : List Int) (n' : List S62) : Bool :=
  decide (ino = ino' ∧ kind = kind' ∧ links = links' ∧ size = size' ∧ up = up' ∧ p = p' ∧ ent n = ent n')
theorem chain {a0 b0 a1 b1 a2 b2 a3 b3 a4 b4 : Int} {X : Option Bool} {P : Prop} [Decidable P] (hX : X = some (decide P)) :
    (if a0 = b0 then (if a1 = b1 then (if a2 = b2 then (if a3 = b3 then (if a4 = b4 then X else (some false)) else (some false)) else (some false)) else (some false)) else (some false)) = some (decide (a0 = b0 ∧ a1 = b1 ∧ a2 = b2 ∧ a3 = b3 ∧ a4 = b4 ∧ P)) := by
  by_cases c0 : a0 = b0
  · by_cases c1 : a1 = b1
    · by_cases c2 : a2 = b2
      · by_cases c3 : a3 = b3
        · by_cases c4 : a4 = b4
          · rw [if_pos c0, if_pos c1, if_pos c2, if_pos c3, if_pos c4, hX]; congr 1; rw [decide_eq_decide]; exact ⟨fun h => ⟨c0, c1, c2, c3, c4, h⟩, fun h => h.2.2.2.2.2⟩
          · rw [if_pos c0, if_pos c1, if_pos c2, if_pos c3, if_neg c4]; congr 1; rw [eq_comm, decide_eq_false_iff_not]; exact fun h => c4 h.2.2.2.2.1
        · rw [if_pos c0, if_pos c1, if_pos c2, if_neg c3]; congr 1; rw [eq_comm, decide_eq_false_iff_not]; exact fun h => c3 h.2.2.2.1
      · rw [if_pos c0, if_pos c1, if_neg c2]; congr 1; rw [eq_comm, decide_eq_false_iff_not]; exact fun h => c2 h.2.2.1
    · rw [if_pos c0, if_neg c1]; congr 1; rw [eq_comm, decide_eq_false_iff_not]; exact fun h => c1 h.2.1
  · rw [if_neg c0]; congr 1; rw [eq_comm, decide_eq_false_iff_not]; exact fun h => c0 h.1
theorem two {A B : Option Bool} {P R : Prop} [Decidable P] [Decidable R] (hA : A = some (decide P)) (hB : B = some (decide R)) :
    (A.bind fun t => (if t = true then (B.bind fun u => (some u)) else (some false))) = some (decide (P ∧ R)) := by
  rw [hA, hB, Option.bind_some]
  by_cases c : P
  · rw [decide_eq_true c, if_pos rfl, Option.bind_some]; congr 1; rw [decide_eq_decide]; exact ⟨fun h => ⟨c, h⟩, fun h => h.2⟩
  · rw [decide_eq_false c, if_neg (by decide)]; congr 1; rw [eq_comm, decide_eq_false_iff_not]; exact fun h => c h.1
theorem sameNode_f (ino kind links size up : Int) (p : List Int) (n : List S62) (ino' kind' links' size' up' : Int) (p' : List Int) (n' : List S62) (hp : p.length ≤ 1000) (hn : n.length ≤ 1000) (k : Nat) (hk : 1001 ≤ k) :
    sumpref09_SameNode.f k ino kind links size up p n ino' kind' links' size' up' p' n' = some (sameN ino kind links size up p n ino' kind' links' size' up' p' n') := by
  unfold sumpref09_SameNode.f sameN
  exact chain (two (sameInts_f p p' (by omega) k (by omega)) (sameEntries_f n n' (by omega) k (by omega)))
theorem same_refl (ino kind links size up : Int) (p : List Int) (n : List S62) : sameN ino kind links size up p n ino kind links size up p n = true := decide_eq_true ⟨rfl, rfl, rfl, rfl, rfl, rfl, rfl⟩
theorem rneed_f (n : Int) (h0 : -9223372036854775808 ≤ n) (h1 : n < 9223372036854775808) : sumpref09_Need.f n = some (need n) := by
  unfold sumpref09_Need.f need
  by_cases c : n < 1
  · rw [if_pos c, if_pos c, ite_self, if_pos c]
  · rw [if_neg c, if_neg c, if_neg c, Int.tmod_eq_emod_of_nonneg (by omega), Int.tdiv_eq_ediv_of_nonneg (by omega)]
    have e2 : wrap64 (n / 256) = n / 256 := Q.wrap64_in (by omega) (by omega)
    rw [e2]
    by_cases c2 : n % 256 > 0
    · rw [if_pos c2, Q.wrap64_in (by omega) (by omega)]; congr 1; omega
    · rw [if_neg c2]; congr 1; omega
theorem rcopy_f (ino kind links size up : Int) (p : List Int) (n : List S62) (hp : p.length ≤ 1000) (hn : n.length ≤ 1000) : sumpref09_CopyNode.f ino kind links size up p n = some (ino, kind, links, size, up, p, n) := by
  unfold sumpref09_CopyNode.f
  rw [if_pos (by simp; omega), if_pos (by simp; omega), List.nil_append, List.nil_append]
theorem v_snoc (l : List Int) (x : Int) : inode_some.v (l ++ [x]) = if x = 0 then inode_some.v l else inode_some.v l ++ [x] := by
  unfold inode_some.v
  rw [List.filter_append]
  by_cases c : x = 0
  · rw [if_pos c, List.filter_cons_of_neg (by simpa using c)]; simp
  · rw [if_neg c, List.filter_cons_of_pos (by simpa using c)]; rfl
theorem v_len (l : List Int) : (inode_some.v l).length ≤ l.length := List.length_filter_le _ _
theorem rloop (ino kind links size up : Int) (p : List Int) (n : List S62) (ino' kind' links' size' up' : Int) (n' : List S62) (a : Int) (h0 : 0 ≤ a) (h1 : a ≤ 16384) (hp : p.length ≤ 1000) (d : Nat) : ∀ (i : Nat), i ≤ max (need a).toNat p.length → max (need a).toNat p.length - i = d →
    Ev (fun k => sumpref09_Resize.l0 k a (inode_some.v ((p.drop (need a).toNat).take (i - (need a).toNat))) (i : Int) ino kind links size up p n ino' kind' links' size' up' ((rpages p a).take i) n') (ino', kind', links', size', up', rpages p a, n', rgone p a) := by
  have hr := need_rng a h1
  have hl := rpages_len p a h1
  have hnf := rneed_f a (by omega) (by omega)
  have hg : rgone p a = inode_some.v (p.drop (need a).toNat) := by
    unfold rgone
    by_cases c : need a < (p.length : Int)
    · rw [if_pos c]
    · rw [if_neg c, List.drop_eq_nil_of_le (by omega)]; rfl
  induction d with
  | zero =>
    intro i hi hd
    obtain rfl : i = max (need a).toNat p.length := by omega
    rw [List.take_of_length_le (by rw [List.length_drop]; omega), List.take_of_length_le (by omega), ← hg]
    refine Ev.step (f := fun k => sumpref09_Resize.j2 k a (rgone p a) ((max (need a).toNat p.length : Nat) : Int) false ino kind links size up p n ino' kind' links' size' up' (rpages p a) n') (fun k => ?_) (Ev.step (fun k => ?_) (Ev.now _))
    · rw [sumpref09_Resize.l0, hnf, Option.bind_some, if_neg (by omega), decide_eq_false (by omega)]
    · rw [sumpref09_Resize.j2, if_neg (by decide)]
  | succ d ih =>
    intro i hi hd
    have h2 := ih (i + 1) (by omega) (by omega)
    have hsucc : wrap64 ((i : Int) + 1) = ((i + 1 : Nat) : Int) := by rw [Q.wrap64_in (by omega) (by omega)]; omega
    have hvl : (inode_some.v ((p.drop (need a).toNat).take (i - (need a).toNat))).length ≤ 1000 := Nat.le_trans (v_len _) (by rw [List.length_take, List.length_drop]; omega)
    -- the page at i
    have hx : ∀ k, sumpref09_Resize.l0 (k + 1 + 1) a (inode_some.v ((p.drop (need a).toNat).take (i - (need a).toNat))) (i : Int) ino kind links size up p n ino' kind' links' size' up' ((rpages p a).take i) n'
        = sumpref09_Resize.j3 k a (inode_some.v ((p.drop (need a).toNat).take (i - (need a).toNat))) (i : Int) (rd p (i : Int)) ino kind links size up p n ino' kind' links' size' up' ((rpages p a).take i) n' := by
      intro k
      have hj : sumpref09_Resize.j2 (k + 1) a (inode_some.v ((p.drop (need a).toNat).take (i - (need a).toNat))) (i : Int) true ino kind links size up p n ino' kind' links' size' up' ((rpages p a).take i) n' = sumpref09_Resize.j3 k a (inode_some.v ((p.drop (need a).toNat).take (i - (need a).toNat))) (i : Int) (rd p (i : Int)) ino kind links size up p n ino' kind' links' size' up' ((rpages p a).take i) n' := by
        rw [sumpref09_Resize.j2, if_pos rfl]
        by_cases c : (i : Int) < (p.length : Int)
        · rw [if_pos c, if_pos (by omega)]
        · rw [if_neg c]
          have : rd p (i : Int) = 0 := by rw [Q.rd_nat, List.getD_eq_getElem?_getD, List.getElem?_eq_none (by omega)]; rfl
          rw [this]
      rw [sumpref09_Resize.l0, hnf, Option.bind_some]
      by_cases c : (i : Int) < need a
      · rw [if_pos c]; exact hj
      · rw [if_neg c, decide_eq_true (by omega)]; exact hj
    refine Ev.step (g := fun k => sumpref09_Resize.l0 k _ _ _ _ _ _ _ _ _ _ _ _ _ _ _ _ _) (f := fun k => sumpref09_Resize.l0 (k + 1) a (inode_some.v ((p.drop (need a).toNat).take (i - (need a).toNat))) (i : Int) ino kind links size up p n ino' kind' links' size' up' ((rpages p a).take i) n') (fun k => rfl) ?_
    refine Ev.step hx ?_
    refine Ev.step (fun k => ?_) h2
    rw [sumpref09_Resize.j3, hnf, Option.bind_some, hsucc]
    by_cases c : (i : Int) < need a
    · have hil : i < (rpages p a).length := by omega
      have e1 : i + 1 - (need a).toNat = 0 := by omega
      have e2 : i - (need a).toNat = 0 := by omega
      rw [if_pos c, if_pos (by rw [List.length_take]; omega), e1, e2, List.take_succ_eq_append_getElem hil]
      have e3 : (rpages p a)[i] = rd p (i : Int) := by
        rw [Q.rd_nat]
        unfold rpages
        split
        · rw [List.getElem_take, List.getD_eq_getElem?_getD, List.getElem?_eq_getElem (by omega)]; rfl
        · by_cases c3 : i < p.length
          · rw [List.getElem_append_left c3, List.getD_eq_getElem?_getD, List.getElem?_eq_getElem c3]; rfl
          · rw [List.getElem_append_right (by omega), List.getD_eq_getElem?_getD, List.getElem?_eq_none (by omega)]; simp
      rw [e3]
    · have hip : i < p.length := by omega
      rw [if_neg c]
      have et : (rpages p a).take (i + 1) = (rpages p a).take i := by rw [List.take_of_length_le (by omega), List.take_of_length_le (by omega)]
      have el : (p.drop (need a).toNat).take (i + 1 - (need a).toNat) = (p.drop (need a).toNat).take (i - (need a).toNat) ++ [rd p (i : Int)] := by
        rw [show i + 1 - (need a).toNat = (i - (need a).toNat) + 1 by omega, List.take_succ_eq_append_getElem (by rw [List.length_drop]; omega), List.getElem_drop]
        congr 2
        rw [Q.rd_get p i hip]
        congr 1; omega
      rw [et, el, v_snoc]
      by_cases c4 : rd p (i : Int) = 0
      · rw [if_pos c4, if_pos c4]
      · rw [if_neg c4, if_neg c4, if_pos (by omega)]
theorem rresize_ev (ino kind links size up : Int) (p : List Int) (n : List S62) (a : Int) (hp : p.length ≤ 1000) (hn : n.length ≤ 1000) : Ev (fun k => sumpref09_Resize.f k ino kind links size up p n a) (rs ino kind links size up p n a) := by
  unfold sumpref09_Resize.f rs
  rw [rcopy_f _ _ _ _ _ _ _ hp hn]
  simp only [Option.bind_some]
  have ht : Ev (fun k => sumpref09_Resize.j0 k a true ino kind links size up p n ino kind links size up p n) (ino, kind, links, size, up, p, n, []) := Ev.step (fun k => by rw [sumpref09_Resize.j0, if_pos rfl]) (Ev.now _)
  by_cases c : a < 0
  · simpa only [if_pos c, if_pos (show a < 0 ∨ a > 16384 from Or.inl c)] using ht
  · by_cases c2 : a > 16384
    · simpa only [if_neg c, decide_eq_true c2, if_pos (show a < 0 ∨ a > 16384 from Or.inr c2)] using ht
    · simp only [if_neg c, decide_eq_false c2, if_neg (show ¬ (a < 0 ∨ a > 16384) by omega)]
      have h := rloop ino kind links size up p n ino kind links a up n a (by omega) (by omega) hp _ 0 (by omega) rfl
      rw [Nat.zero_sub, List.take_zero, List.take_zero] at h
      exact Ev.step (fun k => by rw [sumpref09_Resize.j0, if_neg (by decide)]; rfl) h
end Go.Proofs.Ytbdehbaiihlacaa.PInodeDoes
