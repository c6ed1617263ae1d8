/- InodeDoes: the pure part: whether any node may be, its words, its refs, and any size. -/
import Derived.Test.YtbdehbaiihlacaaInDoes2
namespace Go.Proofs.Ytbdehbaiihlacaa.PInodeDoes
open Go.RowKit Go.Proofs.YtbdehbaiihlacaaW.PrintWords Go.Proofs.YtbdehbaiihlacaaW.PrintLast Go.Proofs.YtbdehbaiihlacaaW.PrintMore
set_option linter.unusedVariables false
theorem number_f (n : Int) : sumpref09_number.f n = some (isNode n) := by
  unfold sumpref09_number.f isNode
  by_cases c : n ≥ 1
  · rw [if_pos c]; congr 1; rw [decide_eq_decide]; exact ⟨fun h => ⟨c, h⟩, fun h => h.2⟩
  · rw [if_neg c]; congr 1; rw [eq_comm, decide_eq_false_iff_not]; omega
theorem rright_j (k : Nat) (ino kind links size up : Int) (p : List Int) (n : List S62) (b : Bool) (h0 : -9223372036854775808 ≤ size) (h1 : size < 9223372036854775808) :
    sumpref09_RightNode.j0 (k + 1) b ino kind links size up p n = some (if b = true then false else if kind = 1 then decide (up = 0 ∧ n.length = 0 ∧ 0 ≤ size ∧ size ≤ 16384 ∧ (p.length : Int) = need size)
    else if kind = 2 then decide (size = 0 ∧ p.length = 0 ∧ links = 1 ∧ isNode up = true ∧ (ino = 1 → up = 1)) else false) := by
  rw [sumpref09_RightNode.j0]
  cases b with
  | true => rw [if_pos rfl, if_pos rfl]
  | false =>
    have hf : ¬ (false = true) := by decide
    rw [if_neg hf, if_neg hf]
    by_cases c1 : kind = 1
    · rw [if_pos c1, if_pos c1]
      by_cases c2 : up = 0
      · rw [if_pos c2]
        by_cases c3 : (n.length : Int) = 0
        · rw [if_pos c3]
          by_cases c4 : size ≥ 0
          · rw [if_pos c4]
            by_cases c5 : size ≤ 16384
            · rw [if_pos c5, rneed_f size h0 h1, Option.bind_some]
              congr 1
              rw [Bool.eq_iff_iff, beq_iff_eq, decide_eq_true_iff]
              exact ⟨fun h => ⟨c2, by omega, c4, c5, h⟩, fun h => h.2.2.2.2⟩
            · rw [if_neg c5]; congr 1; rw [eq_comm, decide_eq_false_iff_not]; omega
          · rw [if_neg c4]; congr 1; rw [eq_comm, decide_eq_false_iff_not]; omega
        · rw [if_neg c3]; congr 1; rw [eq_comm, decide_eq_false_iff_not]; omega
      · rw [if_neg c2]; congr 1; rw [eq_comm, decide_eq_false_iff_not]; omega
    · rw [if_neg c1, if_neg c1]
      by_cases k1 : kind = 2
      · rw [if_pos k1, if_pos k1]
        by_cases c2 : size = 0
        · rw [if_pos c2]
          by_cases c3 : (p.length : Int) = 0
          · rw [if_pos c3]
            by_cases c4 : links = 1
            · rw [if_pos c4, number_f, Option.bind_some]
              by_cases c5 : isNode up = true
              · rw [if_pos c5]
                by_cases c6 : ino = 1
                · rw [if_pos c6]; congr 1; rw [Bool.eq_iff_iff, beq_iff_eq, decide_eq_true_iff]
                  exact ⟨fun h => ⟨c2, by omega, c4, c5, fun _ => h⟩, fun h => h.2.2.2.2 c6⟩
                · rw [if_neg c6]; congr 1; rw [eq_comm, decide_eq_true_iff]; exact ⟨c2, by omega, c4, c5, fun h => absurd h c6⟩
              · rw [if_neg c5]; congr 1; rw [eq_comm, decide_eq_false_iff_not]; exact fun h => c5 h.2.2.2.1
            · rw [if_neg c4]; congr 1; rw [eq_comm, decide_eq_false_iff_not]; exact fun h => c4 h.2.2.1
          · rw [if_neg c3]; congr 1; rw [eq_comm, decide_eq_false_iff_not]; intro h; have := h.2.1; omega
        · rw [if_neg c2]; congr 1; rw [eq_comm, decide_eq_false_iff_not]; exact fun h => c2 h.1
      · rw [if_neg k1, if_neg k1]
theorem rright_f (k : Nat) (ino kind links size up : Int) (p : List Int) (n : List S62) (h0 : -9223372036854775808 ≤ size) (h1 : size < 9223372036854775808) :
    sumpref09_RightNode.f (k + 1) ino kind links size up p n = some (right ino kind links size up p.length n.length) := by
  unfold sumpref09_RightNode.f right
  rw [number_f, Option.bind_some]
  by_cases c : isNode ino = true
  · rw [if_pos c, if_pos c]
    by_cases c1 : links < 0
    · rw [if_pos c1, if_pos (Or.inl c1), rright_j _ _ _ _ _ _ _ _ _ h0 h1, if_pos rfl]
    · rw [if_neg c1, rright_j _ _ _ _ _ _ _ _ _ h0 h1]
      by_cases c2 : links > 16
      · rw [decide_eq_true c2, if_pos rfl, if_pos (Or.inr c2)]
      · have hf : ¬ (false = true) := by decide
        rw [decide_eq_false c2, if_neg hf, if_neg (show ¬ (links < 0 ∨ links > 16) by omega)]
  · rw [if_neg c, if_neg c, rright_j _ _ _ _ _ _ _ _ _ h0 h1, if_pos rfl]
theorem equal_f (a b : List Int) (h : a.length ≤ 9223372036854775806) (k : Nat) (hk : a.length < k) : slices_Equal_int_int.f k a b = some (decide (a = b)) := by
  unfold slices_Equal_int_int.f
  by_cases c : a.length = b.length
  · rw [if_pos (by omega)]
    exact Q.eq_loop_int (F := fun k i => slices_Equal_int_int.l0 k a b (a.length : Int) i) c h (fun k i => by simp only [slices_Equal_int_int.l0]) k hk
  · rw [if_neg (by omega)]; congr 1; rw [eq_comm, decide_eq_false_iff_not]; exact fun e => c (by rw [e])
theorem equalE_f (a b : List S62) (h : a.length ≤ 9223372036854775806) (k : Nat) (hk : a.length < k) : api_Entry_45.f k a b = some (decide (ent a = ent b)) := by
  unfold api_Entry_45.f
  by_cases c : a.length = b.length
  · rw [if_pos (by omega)]
    exact ent_loop (F := fun k i => api_Entry_45.l0 k a b (a.length : Int) i) c h (fun k i => by simp only [api_Entry_45.l0]) k hk
  · rw [if_neg (by omega)]; congr 1; rw [eq_comm, decide_eq_false_iff_not]; exact fun e => c (ent_len e)
theorem same_f (ino kind links size up : Int) (p : List Int) (n : List S62) (ino' kind' links' size' up' : Int) (p' : List Int) (n' : List S62) (hp : p.length ≤ 1000) (hn : n.length ≤ 1000) (k : Nat) (hk : 1001 ≤ k) :
    inode_Same.f k ino kind links size up p n ino' kind' links' size' up' p' n' = some (sameN ino kind links size up p n ino' kind' links' size' up' p' n') := by
  unfold inode_Same.f sameN
  exact chain (two (equal_f p p' (by omega) k (by omega)) (equalE_f n n' (by omega) k (by omega)))
theorem packl_inner (l : List Int) (i : Nat) (hi : i ≤ 1000) (R : List Int → Prop) (q : Nat) (hq : i / 8 < q) (h : ∀ zs : List Int, zs.length = q → ∃ P, Ev (fun k => sumpref01_Pack.l0 k zs l (l.length : Int) ((i + 1 : Nat) : Int)) P ∧ R P) (d : Nat) : ∀ (xs : List Int) (y : Int) (m : Nat), xs.length = q → m ≤ i % 8 → i % 8 - m = d →
    ∃ P, Ev (fun k => sumpref01_Pack.l1 k xs (i : Int) y (m : Int) l (l.length : Int) (i : Int)) P ∧ R P := by
  have t : Int.tmod (i : Int) 8 = ((i % 8 : Nat) : Int) := by rw [Int.tmod_eq_emod_of_nonneg (by omega)]; omega
  have t1 : wrap64 (Int.tdiv (i : Int) 8) = ((i / 8 : Nat) : Int) := by
    rw [Int.tdiv_eq_ediv_of_nonneg (by omega), Q.wrap64_in (by omega) (by omega)]; omega
  have ts : wrap64 ((i : Int) + 1) = ((i + 1 : Nat) : Int) := by rw [Q.wrap64_in (by omega) (by omega)]; omega
  induction d with
  | zero =>
    intro xs y m hx hm hd
    obtain rfl : m = i % 8 := by omega
    obtain ⟨P, hP, hR⟩ := h (xs.set (i / 8) (IntKind.u64.wrap (rd xs ((i / 8 : Nat) : Int) + y))) (by rw [List.length_set]; exact hx)
    refine ⟨P, Ev.step (fun k => ?_) hP, hR⟩
    rw [sumpref01_Pack.l1, t, if_neg (by omega), t1, if_pos (by omega), if_pos (by omega), Int.toNat_natCast, ts]
  | succ d ih =>
    intro xs y m hx hm hd
    obtain ⟨P, hP, hR⟩ := ih xs (IntKind.u64.wrap (y * 256)) (m + 1) hx (by omega) (by omega)
    refine ⟨P, Ev.step (fun k => ?_) hP, hR⟩
    rw [sumpref01_Pack.l1, t, if_pos (by omega), Q.wrap64_in (by omega) (by omega)]
    rfl
theorem packl (l : List Int) (hl : l.length ≤ 1000) (d : Nat) : ∀ (i : Nat) (xs : List Int), i ≤ l.length → l.length - i = d → xs.length = (i + 7) / 8 →
    ∃ P, Ev (fun k => sumpref01_Pack.l0 k xs l (l.length : Int) (i : Int)) P ∧ P.length = (l.length + 7) / 8 := by
  induction d with
  | zero =>
    intro i xs h1 hd hx
    obtain rfl : i = l.length := by omega
    exact ⟨xs, Ev.step (fun k => by rw [sumpref01_Pack.l0, if_neg (by omega)]) (Ev.now _), hx⟩
  | succ d ih =>
    intro i xs h1 hd hx
    have t : Int.tmod (i : Int) 8 = ((i % 8 : Nat) : Int) := by rw [Int.tmod_eq_emod_of_nonneg (by omega)]; omega
    have hi := packl_inner l i (by omega) (fun P => P.length = (l.length + 7) / 8) (i / 8 + 1) (by omega) (fun zs hz => ih (i + 1) zs (by omega) (by omega) (by omega)) (i % 8)
    by_cases c : i % 8 = 0
    · obtain ⟨P, hP, hR⟩ := hi (xs ++ [0]) (IntKind.u64.wrap (rd l (i : Int))) 0 (by simp; omega) (by omega) (by omega)
      refine ⟨P, Ev.step (f := fun k => sumpref01_Pack.j1 k (xs ++ [0]) (i : Int) (rd l (i : Int)) l (l.length : Int) (i : Int)) (fun k => ?_) (Ev.step (fun k => by rw [sumpref01_Pack.j1]; rfl) hP), hR⟩
      rw [sumpref01_Pack.l0, if_pos (by omega), if_pos (by omega), if_pos (by omega), t, if_pos (by omega), if_pos (by omega)]
    · obtain ⟨P, hP, hR⟩ := hi xs (IntKind.u64.wrap (rd l (i : Int))) 0 (by omega) (by omega) (by omega)
      refine ⟨P, Ev.step (f := fun k => sumpref01_Pack.j1 k xs (i : Int) (rd l (i : Int)) l (l.length : Int) (i : Int)) (fun k => ?_) (Ev.step (fun k => by rw [sumpref01_Pack.j1]; rfl) hP), hR⟩
      rw [sumpref01_Pack.l0, if_pos (by omega), if_pos (by omega), if_pos (by omega), t, if_neg (by omega)]
theorem text_ev (s : ByteArray) (hs : s.size ≤ 1000) : ∃ P, Ev (fun k => sumpref01_Text.f k s) P ∧ P.length = (s.size + 7) / 8 + 1 := by
  obtain ⟨P, hP, hl⟩ := packl (bytesOf s) (by rw [bytesOf_length]; exact hs) (bytesOf s).length 0 [] (by omega) (by omega) rfl
  rw [bytesOf_length] at hl
  refine ⟨IntKind.u64.wrap s.size :: P, ?_, by simp [hl]⟩
  unfold sumpref01_Text.f
  simp only [if_pos (show s.size ≤ 9223372036854775807 by omega)]
  refine Ev.bind (g := fun k => sumpref01_Pack.f k (bytesOf s)) hP ?_
  simp only [if_pos (show P.length < 17592186044414 by omega)]
  exact Ev.now _
theorem wneed (m : Nat) (hm : m ≤ 1000) : words_Need.f (m : Int) = some (((m + 7) / 8 : Nat) : Int) := by
  unfold words_Need.f
  by_cases c : (m : Int) < 1
  · rw [if_pos c]; congr 1; omega
  · rw [if_neg c]
    have e1 : wrap64 ((m : Int) - 1) = m - 1 := Q.wrap64_in (by omega) (by omega)
    rw [e1, Int.tdiv_eq_ediv_of_nonneg (by omega)]
    have e2 : wrap64 (((m : Int) - 1) / 8) = ((m : Int) - 1) / 8 := Q.wrap64_in (by omega) (by omega)
    rw [e2, Q.wrap64_in (by omega) (by omega)]
    congr 1; omega
theorem words_l (n : List S62) (hn : n.length ≤ 1000) (hs : ∀ x ∈ n, x.f0.size ≤ 1000) (d : Nat) : ∀ (i : Nat) (acc : Int), i ≤ n.length → n.length - i = d →
    ∃ v, Ev (fun k => inode_Words.l0 k acc n (n.length : Int) (i : Int)) v ∧ Ev (fun k => sumpref09_WordsOf.l0 k acc n (n.length : Int) (i : Int)) v := by
  induction d with
  | zero =>
    intro i acc h1 hd
    obtain rfl : i = n.length := by omega
    exact ⟨acc, Ev.step (fun k => by rw [inode_Words.l0, if_neg (by omega)]) (Ev.now _), Ev.step (fun k => by rw [sumpref09_WordsOf.l0, if_neg (by omega)]) (Ev.now _)⟩
  | succ d ih =>
    intro i acc h1 hd
    have hi : i < n.length := by omega
    have hsz := hs n[i] (List.getElem_mem hi)
    have ts : wrap64 ((i : Int) + 1) = ((i + 1 : Nat) : Int) := by rw [Q.wrap64_in (by omega) (by omega)]; omega
    obtain ⟨v, h2, h3⟩ := ih (i + 1) (wrap64 (acc + wrap64 (2 + (((n[i].f0.size + 7) / 8 : Nat) : Int)))) (by omega) (by omega)
    obtain ⟨P, hP, hl⟩ := text_ev n[i].f0 hsz
    refine ⟨v, Ev.step (fun k => ?_) h2, Ev.step (f := fun k => (sumpref01_Text.f k n[i].f0).bind fun t213 => (sumpref09_WordsOf.l0 k (wrap64 (acc + (wrap64 (1 + (t213.length : Int))))) n (n.length : Int) ((i + 1 : Nat) : Int))) (fun k => ?_) ?_⟩
    · rw [inode_Words.l0, if_pos (by omega), if_pos (by omega), if_pos (by omega), rd62 n i hi, wneed _ hsz, Option.bind_some, ts]
    · rw [sumpref09_WordsOf.l0, if_pos (by omega), if_pos (by omega), if_pos (by omega), rd62 n i hi, ts]
    · refine Ev.bind (g := fun k => sumpref01_Text.f k n[i].f0) hP ?_
      rw [show (1 + (P.length : Int)) = 2 + (((n[i].f0.size + 7) / 8 : Nat) : Int) by omega]
      exact h3
theorem refs_f (ino kind links size up : Int) (p : List Int) (n : List S62) (hp : p.length ≤ 1000) : inode_Refs.f ino kind links size up p n = some (inode_some.v p) := by
  unfold inode_Refs.f inode_some.f; rw [if_pos (by omega), Option.bind_some]
theorem take_v (p : List Int) (i : Nat) (h : i < p.length) : inode_some.v (p.take (i + 1)) = if rd p (i : Int) = 0 then inode_some.v (p.take i) else inode_some.v (p.take i) ++ [rd p (i : Int)] := by
  rw [List.take_succ_eq_append_getElem h, ← Q.rd_get p i h]; exact v_snoc _ _
theorem succ_w (i : Nat) (h : i ≤ 1000) : wrap64 ((i : Int) + 1) = ((i + 1 : Nat) : Int) := by rw [Q.wrap64_in (by omega) (by omega)]; omega
theorem v_lt (p : List Int) (i : Nat) (hp : p.length ≤ 100) : (inode_some.v (p.take i)).length < 17592186044416 := by
  have z1 := v_len (p.take i)
  have z2 : (p.take i).length ≤ p.length := List.length_take_le' i p
  omega
theorem law_step (k : Nat) (x2 x3 x4 x5 : Int) (x14 x16 A B p : List Int) (i : Nat) (a0 a1 a2 a3 a4 : Int) (a5 : List Int) (a6 : List S62) (b0 b1 b2 b3 b4 : Int) (b5 : List Int) (b6 : List S62) (c0 c1 c2 c3 c4 : Int) (c5 : List Int) (c6 : List S62) (d0 d1 d2 d3 d4 : Int) (d5 : List Int) (d6 : List S62) (q1 : (i : Int) < (p.length : Int)) (q2 : 0 ≤ (i : Int)) (ts : wrap64 ((i : Int) + 1) = ((i + 1 : Nat) : Int)) (hl : A.length < 17592186044416) (hv : B = if rd p (i : Int) = 0 then A else A ++ [rd p (i : Int)]) :
    sumplaw14_InodeDoes.l0 (k + 1) x2 x3 x4 x5 x14 x16 A p (p.length : Int) (i : Int) a0 a1 a2 a3 a4 a5 a6 b0 b1 b2 b3 b4 b5 b6 c0 c1 c2 c3 c4 c5 c6 d0 d1 d2 d3 d4 d5 d6 = sumplaw14_InodeDoes.l0 k x2 x3 x4 x5 x14 x16 B p (p.length : Int) ((i + 1 : Nat) : Int) a0 a1 a2 a3 a4 a5 a6 b0 b1 b2 b3 b4 b5 b6 c0 c1 c2 c3 c4 c5 c6 d0 d1 d2 d3 d4 d5 d6 := by
  rw [sumplaw14_InodeDoes.l0, if_pos q1, if_pos q2, if_pos q1, ts, hv]
  by_cases c : rd p (i : Int) = 0
  · rw [if_pos c, if_pos c]
  · rw [if_neg c, if_neg c, if_pos hl]
theorem law (x0 : S39) (x1 : S39) (a2 : Int) (a3 : Int) (a4 : Int) (a5 : Int) (g0 : G39 x0) (g1 : G39 x1) (w2 : (Lit.int .i64 a2).wf = true) (w3 : (Lit.int .i64 a3).wf = true) (w4 : (Lit.int .i64 a4).wf = true) (w5 : (Lit.int .i64 a5).wf = true) : ∃ k, sumplaw14_InodeDoes.f k x0.f0 x0.f1 x0.f2 x0.f3 x0.f4 x0.f5 x0.f6 x1.f0 x1.f1 x1.f2 x1.f3 x1.f4 x1.f5 x1.f6 a2 a3 a4 a5 = some true := by
  obtain ⟨ino, kind, links, size, up, p, n⟩ := x0
  obtain ⟨ino', kind', links', size', up', p', n'⟩ := x1
  have hsz := Q.wf_i64 g0.2.2.2.1
  have hnl : n.length ≤ 9223372036854775807 := g0.2.2.2.2.2.2.1
  have hnl' : n'.length ≤ 9223372036854775807 := g1.2.2.2.2.2.2.1
  have hs2 := Q.wf_i64 w2
  simp only at hsz
  refine Ev.rounds (g := fun k => sumplaw14_InodeDoes.f k ino kind links size up p n ino' kind' links' size' up' p' n' a2 a3 a4 a5) ?_
  unfold sumplaw14_InodeDoes.f
  have haw : Ev (fun k => sumplaw14_awake.f k) true := Ev.of (fun k => sumplaw14_awake.mono k) awake_true
  refine Ev.bind (g := fun k => sumplaw14_awake.f k) haw ?_
  obtain ⟨b, hb, hbt⟩ := few_ev ino kind links size up p n hnl
  obtain ⟨b', hb', hbt'⟩ := few_ev ino' kind' links' size' up' p' n' hnl'
  have ht : Ev (fun k => sumplaw14_InodeDoes.j0 k a2 a3 a4 a5 true ino kind links size up p n ino' kind' links' size' up' p' n') true := Ev.step (fun k => by rw [sumplaw14_InodeDoes.j0, if_pos rfl]) (Ev.now true)
  simp only [if_true]
  refine Ev.bind (g := fun k => sumplaw14_Few.f k ino kind links size up p n) hb ?_
  cases b with
  | false => simpa using ht
  | true =>
  simp only [if_true]
  refine Ev.bind (g := fun k => sumplaw14_Few.f k ino' kind' links' size' up' p' n') hb' ?_
  cases b' with
  | false => exact ht
  | true =>
  obtain ⟨hp, hn, hns⟩ := hbt rfl
  simp only [Bool.not_true]
  refine Ev.step (f := fun k => ((inode_Resize.f k ino kind links size up p n a2).bind fun bt233 => ((sumpref09_Resize.f k ino kind links size up p n a2).bind fun bt248 => (sumplaw14_InodeDoes.l0 k a2 a3 a4 a5 bt233.2.2.2.2.2.2.2 bt248.2.2.2.2.2.2.2 ([] : List Int) p (p.length : Int) 0 ino kind links size up p n ino' kind' links' size' up' p' n' bt233.1 bt233.2.1 bt233.2.2.1 bt233.2.2.2.1 bt233.2.2.2.2.1 bt233.2.2.2.2.2.1 bt233.2.2.2.2.2.2.1 bt248.1 bt248.2.1 bt248.2.2.1 bt248.2.2.2.1 bt248.2.2.2.2.1 bt248.2.2.2.2.2.1 bt248.2.2.2.2.2.2.1)))) (fun k => by rw [sumplaw14_InodeDoes.j0, if_neg (by decide)]) ?_
  have hrz : Ev (fun k => inode_Resize.f k ino kind links size up p n a2) (rs ino kind links size up p n a2) := ⟨70, fun k hk => resize_f _ _ _ _ _ _ _ _ (by omega) (by omega) k hk⟩
  refine Ev.bind (g := fun k => inode_Resize.f k ino kind links size up p n a2) hrz ?_
  refine Ev.bind (g := fun k => sumpref09_Resize.f k ino kind links size up p n a2) (rresize_ev ino kind links size up p n a2 (by omega) (by omega)) ?_
  have hsl : (rs ino kind links size up p n a2).2.2.2.2.2.1.length ≤ 1000 ∧ (rs ino kind links size up p n a2).2.2.2.2.2.2.1.length ≤ 1000 ∧ (rs ino kind links size up p n a2).2.2.2.2.2.2.2.length ≤ 1000 := by
    unfold rs
    by_cases c : a2 < 0 ∨ a2 > 16384
    · rw [if_pos c]; exact ⟨by simp only; omega, by simp only; omega, by simp⟩
    · rw [if_neg c]
      have h1 := rpages_len p a2 (by omega)
      have h2 := need_rng a2 (by omega)
      refine ⟨by simp only; omega, by simp only; omega, ?_⟩
      simp only
      unfold rgone
      split
      · exact Nat.le_trans (v_len _) (by rw [List.length_drop]; omega)
      · simp
  generalize rs ino kind links size up p n a2 = z at *
  obtain ⟨z0, z1, z2, z3, z4, z5, z6, z7⟩ := z
  simp only at hsl ⊢
  obtain ⟨v, hv1, hv2⟩ := words_l n (by omega) (fun x hx => by have := hns x hx; omega) n.length 0 (wrap64 (7 + (p.length : Int))) (by omega) (by omega)
  have hvl := v_len p
  have hj2 : ∀ y : Int, y = (if a4 = 2 then a5 else 0) → Ev (fun k => sumplaw14_InodeDoes.j2 k a2 a3 a4 a5 z7 z7 (inode_some.v p) ino kind links size up p n ino' kind' links' size' up' p' n' z0 z1 z2 z3 z4 z5 z6 z0 z1 z2 z3 z4 z5 z6 a3 a4 1 0 y) true := by
    intro y hy
    obtain ⟨K1, hK1⟩ := hv1
    obtain ⟨K2, hK2⟩ := hv2
    refine ⟨K1 + K2 + 1003, fun k hk => ?_⟩
    obtain ⟨k, rfl⟩ : ∃ m, k = m + 1 := ⟨k - 1, by omega⟩
    obtain ⟨k', rfl⟩ : ∃ m, k = m + 1 := ⟨k - 1, by omega⟩
    have w1 : inode_Words.f (k' + 1) ino kind links size up p n = some v := hK1 _ (by omega)
    have w2 : sumpref09_WordsOf.f (k' + 1) ino kind links size up p n = some v := hK2 _ (by omega)
    simp only
    rw [sumplaw14_InodeDoes.j2, sameNode_f _ _ _ _ _ _ _ _ _ _ _ _ _ _ (by omega) (by omega) _ (by omega), same_refl, Option.bind_some, if_pos rfl, sameInts_f z7 z7 (by omega) _ (by omega), decide_eq_true rfl, Option.bind_some, if_pos rfl, refs_f _ _ _ _ _ _ _ (by omega), Option.bind_some,
      sameInts_f (inode_some.v p) _ (by omega) _ (by omega), decide_eq_true rfl, Option.bind_some, if_pos rfl, w1, Option.bind_some, w2, Option.bind_some, if_pos rfl, right_f k' _ _ _ _ _ _ _ hsz.1 hsz.2, Option.bind_some, rright_f k' _ _ _ _ _ _ _ hsz.1 hsz.2, Option.bind_some, if_pos (by simp),
      same_f _ _ _ _ _ _ _ _ _ _ _ _ _ _ (by omega) (by omega) _ (by omega), Option.bind_some, sameNode_f _ _ _ _ _ _ _ _ _ _ _ _ _ _ (by omega) (by omega) _ (by omega), Option.bind_some, if_pos (by simp), need_f _ hs2.1 hs2.2, Option.bind_some, rneed_f _ hs2.1 hs2.2, Option.bind_some, if_pos rfl]
    unfold inode_New.f
    rw [Option.bind_some, sameNode_f _ _ _ _ _ _ _ _ _ _ _ _ _ _ (by simp) (by simp) _ (by omega), Option.bind_some, hy, same_refl]
  have key : ∀ d i : Nat, i ≤ p.length → p.length - i = d → Ev (fun k => sumplaw14_InodeDoes.l0 k a2 a3 a4 a5 z7 z7 (inode_some.v (p.take i)) p (p.length : Int) (i : Int) ino kind links size up p n ino' kind' links' size' up' p' n' z0 z1 z2 z3 z4 z5 z6 z0 z1 z2 z3 z4 z5 z6) true := by
    intro d
    induction d with
    | zero =>
      intro i h1 hd
      obtain rfl : i = p.length := by omega
      rw [List.take_length]
      by_cases c : a4 = 2
      · exact Ev.step (fun k => by rw [sumplaw14_InodeDoes.l0, if_neg (by omega), if_pos c]) (hj2 a5 (by rw [if_pos c]))
      · exact Ev.step (fun k => by rw [sumplaw14_InodeDoes.l0, if_neg (by omega), if_neg c]) (hj2 0 (by rw [if_neg c]))
    | succ d ih =>
      intro i h1 hd
      have hi : i < p.length := by omega
      have q1 : (i : Int) < (p.length : Int) := by omega
      have q2 : 0 ≤ (i : Int) := by omega
      have hi2 : i ≤ 1000 := by omega
      have h2 := ih (i + 1) (by omega) (by omega)
      have ts := succ_w i hi2
      exact Ev.step (fun k => law_step k a2 a3 a4 a5 z7 z7 _ _ p i ino kind links size up p n ino' kind' links' size' up' p' n' z0 z1 z2 z3 z4 z5 z6 z0 z1 z2 z3 z4 z5 z6 q1 q2 ts (v_lt p i hp) (take_v p i hi)) h2
  have h := key p.length 0 (by omega) (by omega)
  rw [List.take_zero] at h
  exact h
end Go.Proofs.Ytbdehbaiihlacaa.PInodeDoes
