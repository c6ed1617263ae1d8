/- Inodes: what Need, Right, Copy, some and Resize compute. -/
import Derived.Test.YtbdehbaiihlacaaPInodeDoesx9d
import Derived.Test.YtbdehbaiihlacaaQ
namespace Go.Proofs.Ytbdehbaiihlacaa.PInodeDoes
open Go.RowKit Go.Proofs.YtbdehbaiihlacaaW.PrintWords Go.Proofs.YtbdehbaiihlacaaW.PrintLast Go.Proofs.YtbdehbaiihlacaaW.PrintMore
set_option linter.unusedVariables false
def need (n : Int) : Int := if n < 1 then 0 else (n - 1) / 256 + 1
theorem need_f (n : Int) (h0 : -9223372036854775808 ≤ n) (h1 : n < 9223372036854775808) : inode_Need.f n = some (need n) := by
  unfold inode_Need.f need
  by_cases c : n < 1
  · rw [if_pos c, if_pos c]
  · rw [if_neg c, if_neg c]
    have e1 : wrap64 (n - 1) = n - 1 := Q.wrap64_in (by omega) (by omega)
    rw [e1, Int.tdiv_eq_ediv_of_nonneg (by omega)]
    have e2 : wrap64 ((n - 1) / 256) = (n - 1) / 256 := Q.wrap64_in (by omega) (by omega)
    rw [e2, Q.wrap64_in (by omega) (by omega)]
theorem need_rng (n : Int) (h : n ≤ 16384) : 0 ≤ need n ∧ need n ≤ 64 := by unfold need; split <;> omega
theorem need_mono {a b : Int} (h : a ≤ b) : need a ≤ need b := by unfold need; split <;> split <;> omega
def isNode (n : Int) : Bool := decide (1 ≤ n ∧ n ≤ 1048576)
theorem node_f (n : Int) : inode_node.f n = some (isNode n) := by
  unfold inode_node.f isNode
  by_cases c : n ≥ 1
  · rw [if_pos c]; congr 1; rw [decide_eq_decide]; exact ⟨fun h => ⟨c, h⟩, fun h => h.2⟩
  · rw [if_neg c]; congr 1; rw [eq_comm, decide_eq_false_iff_not]; omega
/-- Whether a node is right. -/
def right (ino kind links size up : Int) (pl nl : Nat) : Bool :=
  if isNode ino = true then (if links < 0 ∨ links > 16 then false else
    if kind = 1 then decide (up = 0 ∧ nl = 0 ∧ 0 ≤ size ∧ size ≤ 16384 ∧ (pl : Int) = need size)
    else if kind = 2 then decide (size = 0 ∧ pl = 0 ∧ links = 1 ∧ isNode up = true ∧ (ino = 1 → up = 1)) else false) else false
theorem right_j (k : Nat) (ino kind links size up : Int) (p : List Int) (n : List S62) (b : Bool) (h0 : -9223372036854775808 ≤ size) (h1 : size < 9223372036854775808) :
    inode_Right.j0 (k + 1) b ino kind links size up p n = some (if b = true then false else if kind = 1 then decide (up = 0 ∧ n.length = 0 ∧ 0 ≤ size ∧ size ≤ 16384 ∧ (p.length : Int) = need size)
    else if kind = 2 then decide (size = 0 ∧ p.length = 0 ∧ links = 1 ∧ isNode up = true ∧ (ino = 1 → up = 1)) else false) := by
  rw [inode_Right.j0]
  cases b with
  | true => rw [if_pos rfl, if_pos rfl]
  | false =>
    have hf : ¬ (false = true) := by decide
    rw [if_neg hf, if_neg hf]
    by_cases c1 : kind = 1
    · rw [if_pos c1, if_pos c1]
      by_cases c2 : up = 0
      · rw [if_pos c2]
        by_cases c3 : (n.length : Int) = 0
        · rw [if_pos c3]
          by_cases c4 : size ≥ 0
          · rw [if_pos c4]
            by_cases c5 : size ≤ 16384
            · rw [if_pos c5, need_f size h0 h1, Option.bind_some]
              congr 1
              rw [Bool.eq_iff_iff, beq_iff_eq, decide_eq_true_iff]
              exact ⟨fun h => ⟨c2, by omega, c4, c5, h⟩, fun h => h.2.2.2.2⟩
            · rw [if_neg c5]; congr 1; rw [eq_comm, decide_eq_false_iff_not]; omega
          · rw [if_neg c4]; congr 1; rw [eq_comm, decide_eq_false_iff_not]; omega
        · rw [if_neg c3]; congr 1; rw [eq_comm, decide_eq_false_iff_not]; omega
      · rw [if_neg c2]; congr 1; rw [eq_comm, decide_eq_false_iff_not]; omega
    · rw [if_neg c1, if_neg c1]
      by_cases k1 : kind = 2
      · rw [if_pos k1, if_pos k1]
        by_cases c2 : size = 0
        · rw [if_pos c2]
          by_cases c3 : (p.length : Int) = 0
          · rw [if_pos c3]
            by_cases c4 : links = 1
            · rw [if_pos c4, node_f, Option.bind_some]
              by_cases c5 : isNode up = true
              · rw [if_pos c5]
                by_cases c6 : ino = 1
                · rw [if_pos c6]; congr 1; rw [Bool.eq_iff_iff, beq_iff_eq, decide_eq_true_iff]
                  exact ⟨fun h => ⟨c2, by omega, c4, c5, fun _ => h⟩, fun h => h.2.2.2.2 c6⟩
                · rw [if_neg c6]; congr 1; rw [eq_comm, decide_eq_true_iff]; exact ⟨c2, by omega, c4, c5, fun h => absurd h c6⟩
              · rw [if_neg c5]; congr 1; rw [eq_comm, decide_eq_false_iff_not]; exact fun h => c5 h.2.2.2.1
            · rw [if_neg c4]; congr 1; rw [eq_comm, decide_eq_false_iff_not]; exact fun h => c4 h.2.2.1
          · rw [if_neg c3]; congr 1; rw [eq_comm, decide_eq_false_iff_not]; intro h; have := h.2.1; omega
        · rw [if_neg c2]; congr 1; rw [eq_comm, decide_eq_false_iff_not]; exact fun h => c2 h.1
      · rw [if_neg k1, if_neg k1]
theorem right_f (k : Nat) (ino kind links size up : Int) (p : List Int) (n : List S62) (h0 : -9223372036854775808 ≤ size) (h1 : size < 9223372036854775808) :
    inode_Right.f (k + 1) ino kind links size up p n = some (right ino kind links size up p.length n.length) := by
  unfold inode_Right.f right
  rw [node_f, Option.bind_some]
  by_cases c : isNode ino = true
  · rw [if_pos c, if_pos c]
    by_cases c1 : links < 0
    · rw [if_pos c1, if_pos (Or.inl c1), right_j _ _ _ _ _ _ _ _ _ h0 h1, if_pos rfl]
    · rw [if_neg c1, right_j _ _ _ _ _ _ _ _ _ h0 h1]
      by_cases c2 : links > 16
      · rw [decide_eq_true c2, if_pos rfl, if_pos (Or.inr c2)]
      · have hf : ¬ (false = true) := by decide
        rw [decide_eq_false c2, if_neg hf, if_neg (show ¬ (links < 0 ∨ links > 16) by omega)]
  · rw [if_neg c, if_neg c, right_j _ _ _ _ _ _ _ _ _ h0 h1, if_pos rfl]
/-- The pages in another size. -/
def rpages (p : List Int) (n : Int) : List Int := if need n < (p.length : Int) then p.take (need n).toNat else p ++ List.replicate ((need n).toNat - p.length) 0
def rgone (p : List Int) (n : Int) : List Int := if need n < (p.length : Int) then inode_some.v (p.drop (need n).toNat) else []
theorem rpages_len (p : List Int) (n : Int) (h : n ≤ 16384) : ((rpages p n).length : Int) = need n := by
  have := need_rng n h
  unfold rpages
  split
  · rw [List.length_take]; omega
  · rw [List.length_append, List.length_replicate]; omega
theorem resize_l (ino kind links size up : Int) (n : List S62) (m : Nat) (hm : m ≤ 64) (d : Nat) : ∀ (k : Nat) (p : List Int), m - p.length = d → d < k → p.length ≤ 1000 →
    inode_Resize.l0 k (m : Int) ino kind links size up p n = some (ino, kind, links, size, up, p ++ List.replicate (m - p.length) 0, n, []) := by
  induction d with
  | zero =>
    intro k p hd hk hp
    obtain ⟨k, rfl⟩ : ∃ q, k = q + 1 := ⟨k - 1, by omega⟩
    rw [inode_Resize.l0, if_neg (by omega), hd, List.replicate_zero, List.append_nil]
  | succ d ih =>
    intro k p hd hk hp
    obtain ⟨k, rfl⟩ : ∃ q, k = q + 1 := ⟨k - 1, by omega⟩
    rw [inode_Resize.l0, if_pos (by omega), if_pos (by omega), ih k (p ++ [0]) (by simp; omega) (by omega) (by simp; omega), List.append_assoc]
    have e : m - p.length = (m - (p ++ [0]).length) + 1 := by simp; omega
    rw [e, List.replicate_succ]; rfl
theorem copy_f (ino kind links size up : Int) (p : List Int) (n : List S62) (hp : p.length ≤ 1000) (hn : n.length ≤ 1000) : inode_Copy.f ino kind links size up p n = some (ino, kind, links, size, up, p, n) := by
  unfold inode_Copy.f slices_Clone_int_int.f api_Entry_38.f
  rw [if_pos (by omega), Option.bind_some, if_pos (by omega), Option.bind_some]
/-- A node in another size. -/
def rs (ino kind links size up : Int) (p : List Int) (n : List S62) (a : Int) : Int × Int × Int × Int × Int × List Int × (List (S62)) × List Int :=
  if a < 0 ∨ a > 16384 then (ino, kind, links, size, up, p, n, []) else (ino, kind, links, a, up, rpages p a, n, rgone p a)
theorem resize_f (ino kind links size up : Int) (p : List Int) (n : List S62) (a : Int) (hp : p.length ≤ 1000) (hn : n.length ≤ 1000) (k : Nat) (hk : 70 ≤ k) :
    inode_Resize.f k ino kind links size up p n a = some (rs ino kind links size up p n a) := by
  obtain ⟨k, rfl⟩ : ∃ q, k = q + 1 := ⟨k - 1, by omega⟩
  unfold inode_Resize.f rs
  rw [copy_f _ _ _ _ _ _ _ hp hn, Option.bind_some]
  show (if a < 0 then inode_Resize.j0 (k + 1) a true ino kind links size up p n else inode_Resize.j0 (k + 1) a (decide (a > 16384)) ino kind links size up p n) = _
  have ht : inode_Resize.j0 (k + 1) a true ino kind links size up p n = some (ino, kind, links, size, up, p, n, []) := by rw [inode_Resize.j0, if_pos rfl]
  by_cases c : a < 0
  · rw [if_pos c, if_pos (Or.inl c)]; exact ht
  · rw [if_neg c]
    by_cases c2 : a > 16384
    · rw [if_pos (Or.inr c2), decide_eq_true c2]; exact ht
    · rw [if_neg (by omega), decide_eq_false c2, inode_Resize.j0, if_neg (by decide), need_f a (by omega) (by omega), Option.bind_some]
      have hr := need_rng a (by omega)
      unfold rpages rgone
      by_cases c3 : need a < (p.length : Int)
      · rw [if_pos c3, if_pos c3, if_pos c3, if_pos hr.1, if_pos (show need a ≤ (p.length : Int) by omega)]
        unfold inode_some.f
        rw [if_pos (by rw [List.length_drop]; omega), Option.bind_some]
      · rw [if_neg c3, if_neg c3, if_neg c3]
        have e : need a = ((need a).toNat : Int) := by omega
        have h5 := resize_l ino kind links a up n (need a).toNat (by omega) ((need a).toNat - p.length) k p rfl (by omega) hp
        rw [← e] at h5
        exact h5
theorem few_f (ino kind links size up : Int) (p : List Int) (n : List S62) (hn : n.length ≤ 9223372036854775807) (d : Nat) : ∀ (j : Nat), j ≤ n.length → n.length - j = d →
    ∃ b, Ev (fun k => sumplaw14_Few.l0 k n (n.length : Int) (j : Int) ino kind links size up p n) b ∧ (b = true → p.length ≤ 100 ∧ n.length ≤ 30 ∧ ∀ x ∈ n.drop j, x.f0.size ≤ 100) := by
  induction d with
  | zero =>
    intro j h1 hd
    obtain rfl : j = n.length := by omega
    by_cases c : (p.length : Int) ≤ 100
    · exact ⟨_, Ev.step (fun k => by rw [sumplaw14_Few.l0, if_neg (by omega), if_pos c]) (Ev.now _), fun h => ⟨by omega, by have := of_decide_eq_true h; omega, by simp⟩⟩
    · exact ⟨_, Ev.step (fun k => by rw [sumplaw14_Few.l0, if_neg (by omega), if_neg c]) (Ev.now _), fun h => by cases h⟩
  | succ d ih =>
    intro j h1 hd
    have hj : j < n.length := by omega
    have er : rd_T62 n (j : Int) = n[j] := by unfold rd_T62; rw [Int.toNat_natCast, List.getD_eq_getElem?_getD, List.getElem?_eq_getElem hj]; rfl
    by_cases c : (n[j].f0.size : Int) > 100
    · exact ⟨false, Ev.step (fun k => by rw [sumplaw14_Few.l0, if_pos (by omega), if_pos (by omega), if_pos (by omega), er, if_pos c]) (Ev.now _), fun h => by cases h⟩
    · obtain ⟨b, hb, hbt⟩ := ih (j + 1) (by omega) (by omega)
      refine ⟨b, Ev.step (fun k => ?_) hb, fun h => ⟨(hbt h).1, (hbt h).2.1, fun x hx => ?_⟩⟩
      · rw [sumplaw14_Few.l0, if_pos (by omega), if_pos (by omega), if_pos (by omega), er, if_neg c, Q.wrap64_in (by omega) (by omega)]
        rw [show ((j + 1 : Nat) : Int) = (j : Int) + 1 by omega]
      · rw [List.drop_eq_getElem_cons hj] at hx
        rcases List.mem_cons.1 hx with rfl | hx
        · omega
        · exact (hbt h).2.2 x hx
theorem few_ev (ino kind links size up : Int) (p : List Int) (n : List S62) (hn : n.length ≤ 9223372036854775807) :
    ∃ b, Ev (fun k => sumplaw14_Few.f k ino kind links size up p n) b ∧ (b = true → p.length ≤ 100 ∧ n.length ≤ 30 ∧ ∀ x ∈ n, x.f0.size ≤ 100) := by
  obtain ⟨b, h1, h2⟩ := few_f ino kind links size up p n hn n.length 0 (by omega) (by omega)
  exact ⟨b, h1, h2⟩
theorem awake_true : sumplaw14_awake.f 3 = some true := by decide +kernel
def G62 (x : S62) : Prop := x.f0.size ≤ maxLen ∧ (Lit.int .i64 x.f1).wf = true
def G39 (x : S39) : Prop := (Lit.int .i64 x.f0).wf = true ∧ (Lit.int .i64 x.f1).wf = true ∧ (Lit.int .i64 x.f2).wf = true ∧ (Lit.int .i64 x.f3).wf = true ∧ (Lit.int .i64 x.f4).wf = true ∧ (x.f5.length ≤ maxLen ∧ ∀ y2 ∈ x.f5, (Lit.int .i64 y2).wf = true) ∧ (x.f6.length ≤ maxLen ∧ ∀ y1 ∈ x.f6, G62 y1)
instance : Inhabited S62 := ⟨z62⟩
instance : Inhabited S39 := ⟨z39⟩
end Go.Proofs.Ytbdehbaiihlacaa.PInodeDoes
