/- Names: the reference's functions, and the laws. -/
import Derived.Test.YteoklaofbdfjlaaDoorNm2
import Derived.Test.YteoklaofbdfjlaaDoorPNamesx6
namespace Go.Proofs.YteoklaofbdfjlaaDoor.Nm
open Go.RowKit Go.Proofs.YteoklaofbdfjlaaDoorW.PrintWords Go.Proofs.YteoklaofbdfjlaaDoor.PNames Go.Proofs.YteoklaofbdfjlaaDoor.Nl Go.Proofs.YteoklaofbdfjlaaDoor.Q
set_option linter.unusedVariables false
set_option linter.unusedSimpArgs false
theorem bt_is (l : List UInt8) (i : Nat) (h : i < l.length) (n : Nat) (hn : n < 256) : bt (M l) (i : Int) = (n : Int) ↔ l[i] = UInt8.ofNat n := by
  rw [bt_M l i h]; exact byte_eq _ n hn
theorem rname_loop (l : List UInt8) (hl : l.length < 1000000) : ∀ (d i k : Nat), l.length - i = d → i ≤ l.length → d < k →
    sumpref01_Name.l0 k (M l) (i : Int) = some (if (47 : UInt8) ∈ l.drop i ∨ (0 : UInt8) ∈ l.drop i then 22 else if 24 < l.length then 36 else 0) := by
  intro d
  induction d with
  | zero =>
    intro i k hd hi hk
    obtain ⟨k, rfl⟩ : ∃ m, k = m + 1 := ⟨k - 1, by omega⟩
    rw [sumpref01_Name.l0, M_size, if_neg (by omega), List.drop_eq_nil_of_le (by omega), if_neg (show ¬((47 : UInt8) ∈ ([] : List UInt8) ∨ (0 : UInt8) ∈ ([] : List UInt8)) by simp)]
    by_cases c : 24 < l.length
    · rw [if_pos (by omega), if_pos c]
    · rw [if_neg (by omega), if_neg c]
  | succ d ih =>
    intro i k hd hi hk
    obtain ⟨k, rfl⟩ : ∃ m, k = m + 1 := ⟨k - 1, by omega⟩
    have h1 : i < l.length := by omega
    have e47 : bt (M l) (i : Int) = 47 ↔ l[i] = 47 := bt_is l i h1 47 (by decide)
    have e0 : bt (M l) (i : Int) = 0 ↔ l[i] = 0 := bt_is l i h1 0 (by decide)
    have hw := w_succ i (by omega)
    have hr := ih (i + 1) k (by omega) (by omega) (by omega)
    rw [sumpref01_Name.l0, M_size, if_pos (by omega), if_pos (by omega), List.drop_eq_getElem_cons h1]
    by_cases c : l[i] = 47
    · rw [if_pos (e47.2 c), if_pos (by rw [c]; simp)]
    · rw [if_neg (fun q => c (e47.1 q))]
      by_cases c0 : l[i] = 0
      · rw [if_pos (e0.2 c0), if_pos (by rw [c0]; simp)]
      · rw [if_neg (fun q => c0 (e0.1 q)), hw, hr]
        congr 1
        have e : ((47 : UInt8) ∈ l[i] :: l.drop (i + 1) ∨ (0 : UInt8) ∈ l[i] :: l.drop (i + 1)) ↔ ((47 : UInt8) ∈ l.drop (i + 1) ∨ (0 : UInt8) ∈ l.drop (i + 1)) := by
          simp only [List.mem_cons, Ne.symm c, Ne.symm c0, false_or]
        by_cases q : (47 : UInt8) ∈ l.drop (i + 1) ∨ (0 : UInt8) ∈ l.drop (i + 1)
        · rw [if_pos q, if_pos (e.2 q)]
        · rw [if_neg q, if_neg (fun x => q (e.1 x))]
theorem rname_ev (l : List UInt8) (hl : l.length < 1000000) (k : Nat) (hk : l.length + 1 < k) : sumpref01_Name.f k (M l) = some (chk l) := by
  obtain ⟨k, rfl⟩ : ∃ m, k = m + 1 := ⟨k - 1, by omega⟩
  have hL := rname_loop l hl l.length 0 k (by omega) (by omega) (by omega)
  rw [List.drop_zero] at hL
  have hj0 : ∀ b, sumpref01_Name.j0 (k + 1) (M l) b = some (if b = true then 22 else if (47 : UInt8) ∈ l ∨ (0 : UInt8) ∈ l then 22 else if 24 < l.length then 36 else 0) := by
    intro b
    rw [sumpref01_Name.j0]
    cases b with
    | true => rw [if_pos rfl, if_pos rfl]
    | false =>
      rw [if_neg Bool.false_ne_true, if_neg Bool.false_ne_true]
      exact hL
  unfold sumpref01_Name.f chk
  rw [M_toList]
  by_cases h1 : l = []
  · rw [if_pos h1, hj0, if_pos rfl, if_pos (Or.inl h1)]
  · rw [if_neg h1]
    by_cases h2 : l = [46]
    · rw [if_pos h2, hj0, if_pos rfl, if_pos (Or.inr (Or.inl h2))]
    · rw [if_neg h2, hj0]
      by_cases h3 : l = [46, 46]
      · rw [if_pos (by rw [h3]; rfl), if_pos (Or.inr (Or.inr (Or.inl h3)))]
      · rw [if_neg (by simpa using h3)]
        by_cases h4 : (47 : UInt8) ∈ l ∨ (0 : UInt8) ∈ l
        · rw [if_pos h4, if_pos (Or.inr (Or.inr (Or.inr h4)))]
        · rw [if_neg h4, if_neg (show ¬(l = [] ∨ l = [46] ∨ l = [46, 46] ∨ (47 : UInt8) ∈ l ∨ (0 : UInt8) ∈ l) from fun e => e.elim h1 (fun e => e.elim h2 (fun e => e.elim h3 h4)))]
/-- One word of a path. -/
def step (acc : List (List UInt8)) (p : List UInt8) (r : List (List UInt8)) : List (List UInt8) × Int := if p = [] then go acc r else if chk p = 0 then go (acc ++ [p]) r else ([], chk p)
theorem rsplit_loop (l : List UInt8) (hl : l.length ≤ 1000) : ∀ (d i st : Nat) (acc : List (List UInt8)) (k : Nat), l.length - i = d → i ≤ l.length → st ≤ i → (47 : UInt8) ∉ (l.take i).drop st → acc.length + d < 1000000 → 2 * d + 1200 < k →
    sumpref01_Split.l0 k (M l) (acc.map M) (st : Int) (i : Int) = some (enc (go acc (parts (l.drop st)))) := by
  intro d
  induction d with
  | zero =>
    intro i st acc k hd hi hs hno ha hk
    obtain ⟨k, rfl⟩ : ∃ m, k = m + 2 + 1 := ⟨k - 3, by omega⟩
    obtain rfl : i = l.length := by omega
    rw [List.take_length] at hno
    have hw := w_succ l.length (by omega)
    have hend : ∀ (a : List (List UInt8)) (z : Int) (j : Nat), sumpref01_Split.l0 (j + 1) (M l) (a.map M) z ((l.length + 1 : Nat) : Int) = some (a.map M, 0) := by
      intro a z j
      rw [sumpref01_Split.l0, M_size, if_neg (by omega)]
    rw [sumpref01_Split.l0, M_size, if_pos (by omega), if_neg (by omega), sumpref01_Split.j2, if_neg Bool.false_ne_true, parts_last _ hno, go]
    by_cases c : st < l.length
    · have hne : l.drop st ≠ [] := fun e => by have := congrArg List.length e; rw [List.length_drop] at this; simp at this; omega
      rw [if_pos (by omega), if_pos (by omega), if_pos (by omega), if_pos (by rw [M_size]; omega), Int.toNat_natCast, Int.toNat_natCast, M_cut, List.take_length, rname_ev _ (by rw [List.length_drop]; omega) _ (by rw [List.length_drop]; omega), Option.bind_some, if_neg hne, hw]
      by_cases e : chk (l.drop st) = 0
      · rw [if_pos e, if_pos e, if_pos (by rw [List.length_map]; omega)]
        have := hend (acc ++ [l.drop st]) ((l.length + 1 : Nat) : Int) k
        have e9 : enc (go (acc ++ [l.drop st]) []) = ((acc ++ [l.drop st]).map M, 0) := rfl
        rw [e9]
        rw [List.map_append] at this ⊢
        exact this
      · rw [if_neg e, if_neg e]; rfl
    · have hnil : l.drop st = [] := List.drop_eq_nil_of_le (by omega)
      rw [if_neg (by omega), hw, hend, if_pos hnil]; rfl
  | succ d ih =>
    intro i st acc k hd hi hs hno ha hk
    obtain ⟨k, rfl⟩ : ∃ m, k = m + 1 + 1 := ⟨k - 2, by omega⟩
    have h1 : i < l.length := by omega
    have hw := w_succ i (by omega)
    have e47 : bt (M l) (i : Int) = 47 ↔ l[i] = 47 := bt_is l i h1 47 (by decide)
    have hlk : l.drop st = (l.take i).drop st ++ l[i] :: l.drop (i + 1) := by
      have e := List.take_append_drop i l
      rw [List.drop_eq_getElem_cons h1] at e
      have := congrArg (List.drop st) e
      rw [List.drop_append_of_le_length (by rw [List.length_take]; omega)] at this
      exact this.symm
    rw [sumpref01_Split.l0, M_size, if_pos (by omega), if_pos (by omega), if_pos (by omega), sumpref01_Split.j2]
    by_cases c : l[i] = 47
    · have hb : (bt (M l) (i : Int) != 47) = false := bne_eq_false_iff_eq.2 (e47.2 c)
      have hdr : (l.take (i + 1)).drop (i + 1) = [] := List.drop_eq_nil_of_le (by rw [List.length_take]; omega)
      rw [hb, if_neg Bool.false_ne_true, hlk, c, parts_seg _ _ hno, go, hw]
      by_cases c2 : st < i
      · have hne : (l.take i).drop st ≠ [] := fun e => by have := congrArg List.length e; rw [List.length_drop, List.length_take] at this; simp at this; omega
        rw [if_pos (by omega), if_pos (by omega), if_pos (by omega), if_pos (by rw [M_size]; omega), Int.toNat_natCast, Int.toNat_natCast, M_cut, rname_ev _ (by rw [List.length_drop, List.length_take]; omega) _ (by rw [List.length_drop, List.length_take]; omega), Option.bind_some, if_neg hne]
        by_cases e : chk ((l.take i).drop st) = 0
        · rw [if_pos e, if_pos e, if_pos (by rw [List.length_map]; omega)]
          have := ih (i + 1) (i + 1) (acc ++ [(l.take i).drop st]) k (by omega) (by omega) (Nat.le_refl _) (by rw [hdr]; simp) (by simp; omega) (by omega)
          rw [List.map_append] at this
          exact this
        · rw [if_neg e, if_neg e]; rfl
      · obtain rfl : st = i := by omega
        have hnil : (l.take st).drop st = [] := List.drop_eq_nil_of_le (by rw [List.length_take]; omega)
        rw [if_neg (by omega), if_pos hnil]
        exact ih (st + 1) (st + 1) acc k (by omega) (by omega) (Nat.le_refl _) (by rw [hdr]; simp) (by omega) (by omega)
    · have hb : (bt (M l) (i : Int) != 47) = true := bne_iff_ne.2 (fun q => c (e47.1 q))
      rw [hb, if_pos rfl, hw]
      refine ih (i + 1) st acc k (by omega) (by omega) (by omega) ?_ (by omega) (by omega)
      rw [List.take_succ_eq_append_getElem h1, List.drop_append_of_le_length (by rw [List.length_take]; omega)]
      intro q
      rcases List.mem_append.1 q with q | q
      · exact hno q
      · exact c (List.mem_singleton.1 q).symm
theorem rsplit_ev (l : List UInt8) (k : Nat) (hk : 4000 < k) (hl : l.length ≤ 1000) : sumpref01_Split.f k (M l) = some (enc (split l)) := by
  obtain ⟨k, rfl⟩ : ∃ m, k = m + 1 := ⟨k - 1, by omega⟩
  unfold sumpref01_Split.f split
  rw [M_size, M_toList]
  by_cases c : 120 < l.length
  · rw [if_pos (by omega), if_pos c]; rfl
  · rw [if_neg (by omega), if_neg c]
    cases l with
    | nil => rw [if_pos rfl, sumpref01_Split.j0, if_pos rfl]; rfl
    | cons x t =>
      have e47 : bt (M (x :: t)) 0 = 47 ↔ x = 47 := bt_is (x :: t) 0 (by simp) 47 (by decide)
      rw [if_neg (by simp), if_pos (by rw [List.length_cons]; omega)]
      by_cases d : x = 47
      · subst d
        have hb : (bt (M (47 :: t)) 0 != 47) = false := bne_eq_false_iff_eq.2 (e47.2 rfl)
        have e : parts (47 :: t) = [] :: parts t := by rw [parts, if_pos rfl]
        have hL := rsplit_loop (47 :: t) hl t.length 1 1 [] k (by simp) (by simp) (Nat.le_refl _) (by simp) (by simp only [List.length_cons] at c; simp; omega) (by simp only [List.length_cons] at c; omega)
        rw [hb, sumpref01_Split.j0, if_neg Bool.false_ne_true, if_pos (by rfl), e, go, if_pos rfl]
        exact hL
      · have hb : (bt (M (x :: t)) 0 != 47) = true := bne_iff_ne.2 (fun q => d (e47.1 q))
        rw [hb, sumpref01_Split.j0, if_pos rfl, if_neg (by simpa using d)]; rfl
theorem jn_app (a b : List (List UInt8)) : jn (a ++ b) = jn a ++ jn b := by simp [jn]
theorem rjoin_loop (l : List (List UInt8)) (hl : tot l ≤ 100000) : ∀ (d i k : Nat), l.length - i = d → i ≤ l.length → d < k →
    sumpref01_Join.l0 k (M (jn (l.take i))) (l.map M) (l.length : Int) (i : Int) = some (M (J l)) := by
  intro d
  induction d with
  | zero =>
    intro i k hd hi hk
    obtain ⟨k, rfl⟩ : ∃ m, k = m + 1 := ⟨k - 1, by omega⟩
    obtain rfl : i = l.length := by omega
    rw [sumpref01_Join.l0, if_neg (by omega), List.take_length, M_toList]
    unfold J
    cases l with
    | nil => rw [if_pos (show jn [] = [] from rfl), if_pos rfl]; rfl
    | cons x t => rw [if_neg (by simp [jn]), if_neg (by simp)]
  | succ d ih =>
    intro i k hd hi hk
    obtain ⟨k, rfl⟩ : ∃ m, k = m + 1 := ⟨k - 1, by omega⟩
    have h1 : i < l.length := by omega
    have hlt := len_tot l
    have hw := w_succ i (by omega)
    have e : jn (l.take (i + 1)) = jn (l.take i) ++ 47 :: l[i] := by rw [List.take_succ_eq_append_getElem h1, jn_app]; simp [jn]
    have hle : tot (l.take (i + 1)) ≤ tot l := by
      have h2 := tot_app (l.take (i + 1)) (l.drop (i + 1))
      rw [List.take_append_drop] at h2; omega
    have hjl := jn_len (l.take (i + 1))
    have hlen := hjl
    rw [e, List.length_append, List.length_cons] at hlen
    have e2 : (⟨#[47]⟩ : ByteArray) ++ M l[i] = M (47 :: l[i]) := by show M [47] ++ M _ = _; rw [M_add]; rfl
    have hr := ih (i + 1) k (by omega) (by omega) (by omega)
    rw [e] at hr
    rw [sumpref01_Join.l0, if_pos (by omega), if_pos (by omega), if_pos (by rw [List.length_map]; omega), mget l i h1, e2, M_size, M_size, M_size, if_pos (by omega), if_pos (by rw [List.length_cons]; omega), M_add, hw]
    exact hr
theorem rjoin_ev (l : List (List UInt8)) (hl : tot l ≤ 100000) (k : Nat) (hk : l.length < k) : sumpref01_Join.f k (l.map M) = some (M (J l)) := by
  unfold sumpref01_Join.f
  rw [List.length_map]
  exact rjoin_loop l hl l.length 0 k (by omega) (by omega) hk
/-! The laws. -/
theorem j2_law (path : List UInt8) (hp : path.length ≤ 200) (k : Nat) (hk : 3000 < k) (up last : ByteArray) (f : Int) (hb : name_Base.f k (M path) = some (up, last, f)) :
    sumplaw08_NameSplits.j2 (k + 1) ((split path).1.map M) (split path).2 up last f false = some true := by
  rw [sumplaw08_NameSplits.j2, if_neg Bool.false_ne_true, List.length_map]
  by_cases h : (split path).2 = 0
  · rw [if_pos h]
    by_cases hn : (split path).1 = []
    · rw [base_nil path (by omega) k (by omega) h hn] at hb
      obtain ⟨rfl, rfl, rfl⟩ : M [] = up ∧ M [] = last ∧ (22 : Int) = f := by cases hb; exact ⟨rfl, rfl, rfl⟩
      rw [hn, if_pos (by rfl), if_pos (M_toList []), if_pos (M_toList [])]
      split <;> rfl
    · rw [base_ok path (by omega) k (by omega) h hn] at hb
      obtain ⟨rfl, rfl, rfl⟩ : M (J (split path).1.dropLast) = up ∧ M ((split path).1.getLast hn) = last ∧ (0 : Int) = f := by cases hb; exact ⟨rfl, rfl, rfl⟩
      have hl := split_len path (by omega)
      have hpos : 0 < (split path).1.length := List.length_pos_iff.2 hn
      have hw : wrap64 (((split path).1.length : Int) - 1) = (((split path).1.length - 1 : Nat) : Int) := by rw [wrap64_in (by omega) (by omega)]; omega
      have ht : tot (split path).1.dropLast ≤ 100000 := by
        have h1 := (split_facts path h).2.1
        have h2 : tot (split path).1 = tot (split path).1.dropLast + tot [(split path).1.getLast hn] := by rw [← tot_app, List.dropLast_concat_getLast hn]
        omega
      rw [if_neg (by omega), if_pos rfl, hw, if_pos (by omega), if_pos (by omega), mget _ _ (by omega), if_pos (by rw [List.getLast_eq_getElem]), if_pos (by omega), Int.toNat_natCast, take_M, dropLast_take, rjoin_ev _ ht k (by rw [List.length_dropLast]; omega), Option.bind_some, M_toList]
      simp
  · rw [base_bad path (by omega) k (by omega) h] at hb
    obtain ⟨rfl, rfl, rfl⟩ : M [] = up ∧ M [] = last ∧ (split path).2 = f := by cases hb; exact ⟨rfl, rfl, rfl⟩
    rw [if_neg h, if_pos (M_toList []), if_pos (M_toList []), if_pos rfl]
theorem splits_law (s path o : List UInt8) (hs : s.length ≤ 200) (hp : path.length ≤ 200) (ho : o.length ≤ 200) (k : Nat) (hk : 10000 < k) : sumplaw08_NameSplits.j0 k (M s) (M path) (M o) false = some true := by
  obtain ⟨k, rfl⟩ : ∃ m, k = m + 1 + 1 + 1 := ⟨k - 3, by omega⟩
  have lp := split_len path (by omega)
  have lo := split_len o (by omega)
  obtain ⟨⟨up, last, f⟩, hb⟩ : ∃ r, name_Base.f (k + 1 + 1) (M path) = some r := by
    by_cases h : (split path).2 = 0
    · by_cases hn : (split path).1 = []
      · exact ⟨_, base_nil path (by omega) _ (by omega) h hn⟩
      · exact ⟨_, base_ok path (by omega) _ (by omega) h hn⟩
    · exact ⟨_, base_bad path (by omega) _ (by omega) h⟩
  have hb2 : name_Base.f k (M path) = some (up, last, f) := by
    by_cases h : (split path).2 = 0
    · by_cases hn : (split path).1 = []
      · rw [base_nil path (by omega) _ (by omega) h hn] at hb ⊢; exact hb
      · rw [base_ok path (by omega) _ (by omega) h hn] at hb ⊢; exact hb
    · rw [base_bad path (by omega) _ (by omega) h] at hb ⊢; exact hb
  have hj1 : sumplaw08_NameSplits.j1 (k + 1 + 1) (M s) (M path) (M o) ((split path).1.map M) (split path).2 ((split path).1.map M) (split path).2 up last f (decide (Un path o)) = some true := by
    obtain ⟨k2, rfl⟩ : ∃ m, k = m + 2 := ⟨k - 2, by omega⟩
    rw [sumplaw08_NameSplits.j1, check_ev s (k2 + 1), Option.bind_some, rname_ev s (by omega) _ (by omega), Option.bind_some, if_pos rfl, same_ev _ _ (by omega) _ (by omega), Option.bind_some, decide_eq_true rfl, if_pos rfl, if_pos rfl, under_ev path o (by omega) (by omega) _ (by omega), Option.bind_some]
    rw [if_neg (by simp)]
    unfold name_Less.f
    rw [Option.bind_some, bne_self_eq_false]
    exact j2_law path hp (k2 + 2) (by omega) up last f hb2
  rw [sumplaw08_NameSplits.j0, if_neg Bool.false_ne_true, split_ev path _ (by omega) (by omega), Option.bind_some, rsplit_ev path _ (by omega) (by omega), Option.bind_some, rsplit_ev o _ (by omega) (by omega), Option.bind_some, hb, Option.bind_some]
  show (if (split path).2 = 0 then _ else _) = _
  by_cases c1 : (split path).2 = 0
  · rw [if_pos c1]
    show (if (split o).2 = 0 then _ else _) = _
    by_cases c2 : (split o).2 = 0
    · rw [if_pos c2]
      simp only [enc, List.length_map]
      by_cases c3 : (split o).1.length < (split path).1.length
      · have hm : mn ((split o).1.length : Int) ((split path).1.length : Int) = ((split o).1.length : Int) := by unfold mn; split <;> omega
        rw [if_pos (by omega), hm, if_pos (by omega), if_pos (by omega), Int.toNat_natCast, take_M, same_ev _ _ (by rw [List.length_take]; omega) _ (by rw [List.length_take]; omega), Option.bind_some]
        have : decide (Un path o) = decide ((split path).1.take (split o).1.length = (split o).1) := by
          rw [decide_eq_decide]; exact ⟨fun e => e.2.2.2, fun e => ⟨c1, c2, c3, e⟩⟩
        rw [this] at hj1
        exact hj1
      · rw [if_neg (by omega)]
        rw [decide_eq_false (show ¬ Un path o from fun e => c3 e.2.2.1)] at hj1
        exact hj1
    · rw [if_neg c2]
      rw [decide_eq_false (show ¬ Un path o from fun e => c2 e.2.1)] at hj1
      exact hj1
  · rw [if_neg c1]
    rw [decide_eq_false (show ¬ Un path o from fun e => c1 e.1)] at hj1
    exact hj1
theorem back_law (l : List (List UInt8)) (hl : l.length ≤ 20) : ∀ (d i k : Nat), l.length - i = d → i ≤ l.length → (∀ p ∈ l.take i, p.length ≤ 30 ∧ chk p = 0) → 10000 + d < k →
    sumplaw08_NameBack.l0 k (l.map M) (l.map M) (l.length : Int) (i : Int) = some true := by
  intro d
  induction d with
  | zero =>
    intro i k hd hi hall hk
    obtain ⟨k, rfl⟩ : ∃ m, k = m + 1 := ⟨k - 1, by omega⟩
    obtain rfl : i = l.length := by omega
    rw [List.take_length] at hall
    have hz : ∀ p ∈ l, chk p = 0 := fun p hp => (hall p hp).2
    have ht : tot l ≤ 31 * l.length := by
      have : ∀ (ls : List (List UInt8)), (∀ p ∈ ls, p.length ≤ 30) → tot ls ≤ 31 * ls.length := by
        intro ls
        induction ls with
        | nil => simp [tot]
        | cons a r ih => intro h; have h1 := h a (by simp); have h2 := ih (fun p hp => h p (by simp [hp])); rw [tot_cons, List.length_cons]; omega
      exact this l (fun p hp => (hall p hp).1)
    have hJ := J_short l
    have hs := split_J l hz
    rw [sumplaw08_NameBack.l0, if_neg (by omega), join_ev l (by omega), Option.bind_some, split_ev (J l) k (by omega) (by omega), Option.bind_some, M_size, hs, List.length_map]
    by_cases c : 120 < (J l).length
    · rw [if_pos (by omega), if_pos c]; rfl
    · rw [if_neg (by omega), if_neg c]
      show (if (0 : Int) = 0 then _ else _) = _
      rw [if_pos rfl]
      show (sumpref01_SameTexts.f k (l.map M) (l.map M)).bind _ = _
      rw [same_ev l l (by omega) k (by omega), Option.bind_some, decide_eq_true rfl, if_pos rfl]
      cases l with
      | nil => rw [if_neg (by simp), M_toList]; rfl
      | cons x t => rw [if_pos (by rw [List.length_cons]; omega)]
  | succ d ih =>
    intro i k hd hi hall hk
    obtain ⟨k, rfl⟩ : ∃ m, k = m + 1 + 1 + 1 := ⟨k - 3, by omega⟩
    have h1 : i < l.length := by omega
    have hw := w_succ i (by omega)
    rw [sumplaw08_NameBack.l0, if_pos (by omega), if_pos (by omega), if_pos (by rw [List.length_map]; omega), mget l i h1, M_size]
    by_cases c : 30 < l[i].length
    · rw [if_pos (by omega)]
    · rw [if_neg (by omega), check_ev, Option.bind_some]
      by_cases e : chk l[i] = 0
      · rw [if_pos e, hw]
        refine ih (i + 1) (k + 1 + 1) (by omega) (by omega) ?_ (by omega)
        rw [List.take_succ_eq_append_getElem h1]
        intro p hp
        rcases List.mem_append.1 hp with q | q
        · exact hall p q
        · rw [List.mem_singleton.1 q]; exact ⟨by omega, e⟩
      · rw [if_neg e]
theorem ML_of (l : List ByteArray) : ∃ ls : List (List UInt8), l = ls.map M := by
  induction l with
  | nil => exact ⟨[], rfl⟩
  | cons a r ih => obtain ⟨ls, h⟩ := ih; obtain ⟨x, hx⟩ := M_of a; exact ⟨x :: ls, by rw [List.map_cons, ← h, ← hx]⟩
theorem nameBack (l : List ByteArray) : ∃ k, sumplaw08_NameBack.f k l = some true := by
  refine ⟨20000, ?_⟩
  obtain ⟨ls, rfl⟩ := ML_of l
  unfold sumplaw08_NameBack.f
  rw [awake_ev _ (by omega), Option.bind_some, if_pos rfl, List.length_map]
  by_cases c : 20 < ls.length
  · rw [if_pos (by omega)]
  · rw [if_neg (by omega)]
    exact back_law ls (by omega) ls.length 0 20000 (by omega) (by omega) (by simp) (by omega)
theorem nameUnder (a0 a1 a2 : ByteArray) : ∃ k, sumplaw08_NameUnder.f k a0 a1 a2 = some true := by
  refine ⟨20000, ?_⟩
  obtain ⟨a, rfl⟩ := M_of a0
  obtain ⟨b, rfl⟩ := M_of a1
  obtain ⟨c, rfl⟩ := M_of a2
  have ht : sumplaw08_NameUnder.j0 20000 (M a) (M b) (M c) true = some true := by
    show sumplaw08_NameUnder.j0 (19999 + 1) (M a) (M b) (M c) true = some true
    rw [sumplaw08_NameUnder.j0, if_pos rfl]
  unfold sumplaw08_NameUnder.f
  rw [awake_ev _ (by omega), Option.bind_some, if_pos rfl, M_size, M_size, M_size]
  by_cases c1 : 200 < a.length
  · rw [if_pos (by omega)]; exact ht
  · rw [if_neg (by omega)]
    by_cases c2 : 200 < b.length
    · rw [if_pos (by omega)]; exact ht
    · rw [if_neg (by omega)]
      by_cases c3 : 200 < c.length
      · rw [decide_eq_true (by omega)]; exact ht
      · rw [decide_eq_false (by omega)]
        exact under_law a b c (by omega) (by omega) (by omega) _ (by omega)
theorem nameSplits (a0 a1 a2 : ByteArray) : ∃ k, sumplaw08_NameSplits.f k a0 a1 a2 = some true := by
  refine ⟨20000, ?_⟩
  obtain ⟨a, rfl⟩ := M_of a0
  obtain ⟨b, rfl⟩ := M_of a1
  obtain ⟨c, rfl⟩ := M_of a2
  have ht : sumplaw08_NameSplits.j0 20000 (M a) (M b) (M c) true = some true := by
    show sumplaw08_NameSplits.j0 (19999 + 1) (M a) (M b) (M c) true = some true
    rw [sumplaw08_NameSplits.j0, if_pos rfl]
  unfold sumplaw08_NameSplits.f
  rw [awake_ev _ (by omega), Option.bind_some, if_pos rfl, M_size, M_size, M_size]
  by_cases c1 : 200 < a.length
  · rw [if_pos (by omega)]; exact ht
  · rw [if_neg (by omega)]
    by_cases c2 : 200 < b.length
    · rw [if_pos (by omega)]; exact ht
    · rw [if_neg (by omega)]
      by_cases c3 : 200 < c.length
      · rw [decide_eq_true (by omega)]; exact ht
      · rw [decide_eq_false (by omega)]
        exact splits_law a b c (by omega) (by omega) (by omega) _ (by omega)
end Go.Proofs.YteoklaofbdfjlaaDoor.Nm
