/- Names: the plain part: what is split, checked, joined, as lists of bytes. No program in sight. -/
import Derived.Lib.Join
import Derived.Lib.Bytealg
namespace Go.Proofs.YteoklaofbdfjlaaDoor.Nl
set_option linter.unusedVariables false
def parts : List UInt8 → List (List UInt8)
  | [] => [[]]
  | c :: t => if c = 47 then [] :: parts t else match parts t with
    | [] => [[c]]
    | h :: r => (c :: h) :: r
theorem parts_last : ∀ (s : List UInt8), (47 : UInt8) ∉ s → parts s = [s]
  | [], _ => rfl
  | c :: t, h => by
    have h1 : ¬ c = 47 := fun e => h (by simp [e])
    have ih := parts_last t (fun e => h (by simp [e]))
    rw [parts, if_neg h1, ih]
theorem parts_seg : ∀ (s r : List UInt8), (47 : UInt8) ∉ s → parts (s ++ 47 :: r) = s :: parts r
  | [], r, _ => by rw [List.nil_append, parts, if_pos rfl]
  | c :: t, r, h => by
    have h1 : ¬ c = 47 := fun e => h (by simp [e])
    have ih := parts_seg t r (fun e => h (by simp [e]))
    rw [List.cons_append, parts, if_neg h1, ih]
def tot (l : List (List UInt8)) : Nat := (l.map (fun p => p.length + 1)).sum
theorem tot_cons (p : List UInt8) (l : List (List UInt8)) : tot (p :: l) = p.length + 1 + tot l := by simp [tot]
theorem tot_app (a b : List (List UInt8)) : tot (a ++ b) = tot a + tot b := by simp [tot]
theorem parts_tot : ∀ (l : List UInt8), tot (parts l) = l.length + 1
  | [] => rfl
  | c :: t => by
    have ih := parts_tot t
    rw [parts]
    by_cases h : c = 47
    · rw [if_pos h, tot_cons, ih]; simp; omega
    · rw [if_neg h]
      cases hp : parts t with
      | nil => rw [hp] at ih; simp [tot] at ih
      | cons a r => rw [hp, tot_cons] at ih; simp only [tot_cons, List.length_cons]; omega
def chk (l : List UInt8) : Int := if l = [] ∨ l = [46] ∨ l = [46, 46] ∨ (47 : UInt8) ∈ l ∨ (0 : UInt8) ∈ l then 22 else if 24 < l.length then 36 else 0
theorem chk_ne {l : List UInt8} (h : chk l = 0) : l ≠ [] ∧ (47 : UInt8) ∉ l := by
  unfold chk at h
  split at h
  · omega
  · rename_i c
    exact ⟨fun e => c (Or.inl e), fun e => c (Or.inr (Or.inr (Or.inr (Or.inl e))))⟩
theorem chk_3 (l : List UInt8) : chk l = 0 ∨ chk l = 22 ∨ chk l = 36 := by
  unfold chk
  split
  · simp
  · split <;> simp
def go : List (List UInt8) → List (List UInt8) → List (List UInt8) × Int
  | acc, [] => (acc, 0)
  | acc, p :: r => if p = [] then go acc r else if chk p = 0 then go (acc ++ [p]) r else ([], chk p)
def split (l : List UInt8) : List (List UInt8) × Int := if 120 < l.length then ([], 36) else if l.head? = some 47 then go [] (parts l) else ([], 22)
theorem go_ok : ∀ (ps acc : List (List UInt8)), (∀ p ∈ ps, chk p = 0) → go acc ps = (acc ++ ps, 0)
  | [], acc, _ => by simp [go]
  | p :: r, acc, h => by
    have h1 := h p (by simp)
    rw [go, if_neg (chk_ne h1).1, if_pos h1, go_ok r _ (fun q hq => h q (by simp [hq]))]
    simp
theorem go_facts : ∀ (ps acc : List (List UInt8)), (go acc ps).2 = 0 → (∀ p ∈ acc, chk p = 0) → (∀ p ∈ (go acc ps).1, chk p = 0) ∧ tot (go acc ps).1 ≤ tot acc + tot ps
  | [], acc, _, h => ⟨h, by simp [go, tot]⟩
  | p :: r, acc, h0, h => by
    rw [go] at h0 ⊢
    by_cases c : p = []
    · rw [if_pos c] at h0 ⊢
      have := go_facts r acc h0 h
      exact ⟨this.1, by rw [tot_cons]; omega⟩
    · rw [if_neg c] at h0 ⊢
      by_cases d : chk p = 0
      · rw [if_pos d] at h0 ⊢
        have := go_facts r (acc ++ [p]) h0 (fun q hq => by
          rcases List.mem_append.1 hq with e | e
          · exact h q e
          · rw [List.mem_singleton.1 e]; exact d)
        exact ⟨this.1, by have h2 := this.2; rw [tot_app, tot_cons] at h2; rw [tot_cons]; simp [tot] at h2 ⊢; omega⟩
      · rw [if_neg d] at h0; exact absurd h0 d
theorem go_bad : ∀ (ps acc : List (List UInt8)), (go acc ps).2 ≠ 0 → (go acc ps).1 = [] ∧ ((go acc ps).2 = 22 ∨ (go acc ps).2 = 36)
  | [], acc, h => absurd rfl h
  | p :: r, acc, h0 => by
    rw [go] at h0 ⊢
    by_cases c : p = []
    · rw [if_pos c] at h0 ⊢; exact go_bad r acc h0
    · rw [if_neg c] at h0 ⊢
      by_cases d : chk p = 0
      · rw [if_pos d] at h0 ⊢; exact go_bad r _ h0
      · rw [if_neg d]; exact ⟨rfl, (chk_3 p).resolve_left d⟩
theorem split_bad (l : List UInt8) (h : (split l).2 ≠ 0) : (split l).1 = [] ∧ ((split l).2 = 22 ∨ (split l).2 = 36) := by
  unfold split at h ⊢
  split
  · simp
  · split
    · rename_i c1 c2; rw [if_neg c1, if_pos c2] at h; exact go_bad _ _ h
    · simp
theorem split_facts (l : List UInt8) (h : (split l).2 = 0) : (∀ p ∈ (split l).1, chk p = 0) ∧ tot (split l).1 ≤ l.length ∧ l.length ≤ 120 := by
  unfold split at h ⊢
  split
  · rename_i c; rw [if_pos c] at h; omega
  · rename_i c
    rw [if_neg c] at h
    split
    · rename_i c2
      rw [if_pos c2] at h
      cases l with
      | nil => simp at c2
      | cons x t =>
        obtain rfl : x = 47 := by simpa using c2
        have e : parts (47 :: t) = [] :: parts t := by rw [parts, if_pos rfl]
        rw [e, go, if_pos rfl] at h ⊢
        have := go_facts (parts t) [] h (by simp)
        rw [parts_tot] at this
        simp [tot] at this ⊢
        exact ⟨this.1, by omega, by simpa using c⟩
    · rename_i c2; rw [if_neg c2] at h; omega
/-- What is joined. -/
def jn (l : List (List UInt8)) : List UInt8 := (l.map (47 :: ·)).flatten
def J (l : List (List UInt8)) : List UInt8 := if l = [] then [47] else jn l
theorem jn_len (l : List (List UInt8)) : (jn l).length = tot l := by
  induction l with
  | nil => rfl
  | cons p r ih => simp only [jn, List.map_cons, List.flatten_cons, List.length_append, List.length_cons, tot_cons] at ih ⊢; omega
theorem jn_join (x : List UInt8) (r : List (List UInt8)) : 47 :: Lib.join (x :: r) [47] = jn (x :: r) := by
  rw [Lib.join_cons]
  simp [jn, Lib.joinTail]
theorem parts_jn : ∀ (l : List (List UInt8)) (s : List UInt8), (47 : UInt8) ∉ s → (∀ p ∈ l, (47 : UInt8) ∉ p) → parts (s ++ jn l) = s :: l
  | [], s, h, _ => by simp [jn]; exact parts_last s h
  | p :: r, s, h, h2 => by
    have e : s ++ jn (p :: r) = s ++ 47 :: (p ++ jn r) := by simp [jn]
    rw [e, parts_seg s _ h, parts_jn r p (h2 p (by simp)) (fun q hq => h2 q (by simp [hq]))]
theorem split_J (l : List (List UInt8)) (h : ∀ p ∈ l, chk p = 0) : split (J l) = if 120 < (J l).length then ([], 36) else (l, 0) := by
  unfold split
  split
  · rfl
  · cases l with
    | nil => rfl
    | cons p r =>
      have e : J (p :: r) = jn (p :: r) := if_neg (by simp)
      have e2 : jn (p :: r) = 47 :: (p ++ jn r) := by simp [jn]
      have e3 : parts (jn (p :: r)) = [] :: p :: r := parts_jn (p :: r) [] (by simp) (fun q hq => (chk_ne (h q hq)).2)
      rw [e, if_pos (by rw [e2]; rfl), e3, go, if_pos rfl, go_ok _ _ h]
      rfl
theorem J_short (l : List (List UInt8)) : (J l).length ≤ tot l + 1 := by
  unfold J; split
  · simp
  · rw [jn_len]; omega
theorem index_mem (l : List UInt8) (c : UInt8) : 0 ≤ Lib.indexByte l c ↔ c ∈ l := by
  induction l with
  | nil => simp [Lib.indexByte]
  | cons b t ih =>
    have hg := Lib.indexByte_ge t c
    unfold Lib.indexByte
    by_cases h : b = c
    · simp [h]
    · rw [if_neg (by simpa using h)]
      by_cases h2 : Lib.indexByte t c = -1
      · rw [if_pos (by simpa using h2)]
        have : c ∉ t := fun e => by have := ih.2 e; omega
        simp [this, Ne.symm h]
      · rw [if_neg (by simpa using h2)]
        have : c ∈ t := ih.1 (by omega)
        simp [this]; omega
theorem index_seg : ∀ (s r : List UInt8) (c : UInt8), c ∉ s → Lib.indexByte (s ++ c :: r) c = s.length
  | [], r, c, _ => by simp [Lib.indexByte]
  | b :: t, r, c, h => by
    have h1 : ¬ b = c := fun e => h (by simp [e])
    have ih := index_seg t r c (fun e => h (by simp [e]))
    rw [List.cons_append, Lib.indexByte, if_neg (by simpa using h1), ih, if_neg (by simp)]
    simp
theorem cut_at (l : List UInt8) (n : Nat) (h : l.count 47 = n + 1) : ∃ s r, l = s ++ 47 :: r ∧ (47 : UInt8) ∉ s ∧ r.count 47 = n := by
  have hm : (47 : UInt8) ∈ l := List.count_pos_iff.1 (by omega)
  obtain ⟨s, r, e, hs⟩ := List.eq_append_cons_of_mem hm
  refine ⟨s, r, e, hs, ?_⟩
  rw [e, List.count_append, List.count_cons_self, List.count_eq_zero.2 hs] at h
  omega
/-- Under. -/
def Un (a b : List UInt8) : Prop := (split a).2 = 0 ∧ (split b).2 = 0 ∧ (split b).1.length < (split a).1.length ∧ (split a).1.take (split b).1.length = (split b).1
instance (a b : List UInt8) : Decidable (Un a b) := by unfold Un; infer_instance
theorem Un_trans {a b c : List UInt8} (h1 : Un a b) (h2 : Un b c) : Un a c := by
  obtain ⟨a1, a2, a3, a4⟩ := h1
  obtain ⟨b1, b2, b3, b4⟩ := h2
  refine ⟨a1, b2, by omega, ?_⟩
  have : (((split a).1.take (split b).1.length)).take (split c).1.length = (split c).1 := by rw [a4, b4]
  rw [List.take_take, Nat.min_eq_left (by omega)] at this
  exact this
theorem Un_irr (a : List UInt8) : ¬ Un a a := fun h => by have := h.2.2.1; omega
theorem Un_asym {a b : List UInt8} (h1 : Un a b) (h2 : Un b a) : False := Un_irr _ (Un_trans h1 h2)
/-- A path is under what it is split from. -/
theorem Un_up (a : List UInt8) (h : (split a).2 = 0) (hn : (split a).1 ≠ []) : Un a (J (split a).1.dropLast) := by
  have hf := split_facts a h
  have hd : ∀ p ∈ (split a).1.dropLast, chk p = 0 := fun p hp => hf.1 p ((List.dropLast_sublist _).subset hp)
  have hne : 0 < (split a).1.length := List.length_pos_iff.2 hn
  have hl : (J (split a).1.dropLast).length ≤ 120 := by
    have h1 := J_short (split a).1.dropLast
    have h2 : tot (split a).1 = tot (split a).1.dropLast + tot [(split a).1.getLast hn] := by
      rw [← tot_app, List.dropLast_concat_getLast hn]
    have h3 : 1 ≤ tot [(split a).1.getLast hn] := by rw [tot_cons]; omega
    omega
  have hs := split_J (split a).1.dropLast hd
  rw [if_neg (by omega)] at hs
  unfold Un
  rw [hs]
  refine ⟨h, rfl, ?_, ?_⟩
  · simp only [List.length_dropLast]; omega
  · simp only [List.length_dropLast]; exact (List.dropLast_eq_take).symm
end Go.Proofs.YteoklaofbdfjlaaDoor.Nl
