/- Names: what the printed functions come to, second part. -/
import Derived.Test.YteoklaofbdfjlaaDoorNm
namespace Go.Proofs.YteoklaofbdfjlaaDoor.Nm
open Go.RowKit Go.Proofs.YteoklaofbdfjlaaDoorW.PrintWords Go.Proofs.YteoklaofbdfjlaaDoor.PNames Go.Proofs.YteoklaofbdfjlaaDoor.Nl Go.Proofs.YteoklaofbdfjlaaDoor.Q
set_option linter.unusedVariables false
set_option linter.unusedSimpArgs false
theorem M_eq (a b : List UInt8) : (M a).toList = (M b).toList ↔ a = b := by rw [M_toList, M_toList]
theorem same_ev (a b : List (List UInt8)) (ha : a.length ≤ 1000000) (k : Nat) (hk : a.length < k) : sumpref01_SameTexts.f k (a.map M) (b.map M) = some (decide (a = b)) := by
  unfold sumpref01_SameTexts.f
  rw [List.length_map, List.length_map]
  by_cases hl : a.length = b.length
  · rw [if_pos (by omega)]
    have h := eq_loop (F := fun k i => sumpref01_SameTexts.l0 k (a.map M) (b.map M) (a.length : Int) i) hl (by omega) (fun k => by simp only [sumpref01_SameTexts.l0]; rw [if_neg (by omega)])
      (fun k i h h' e => by simp only [sumpref01_SameTexts.l0]; rw [if_pos (by omega), if_pos (by omega), if_pos (by rw [List.length_map]; omega), if_pos (by rw [List.length_map]; omega), mget a i h, mget b i h', if_pos ((M_eq _ _).2 e), wrap64_in (by omega) (by omega)])
      (fun k i h h' e => by simp only [sumpref01_SameTexts.l0]; rw [if_pos (by omega), if_pos (by omega), if_pos (by rw [List.length_map]; omega), if_pos (by rw [List.length_map]; omega), mget a i h, mget b i h', if_neg (fun q => e ((M_eq _ _).1 q))])
      a.length 0 k (by omega) (by omega) hk
    rw [List.drop_zero, List.drop_zero] at h
    exact h
  · rw [if_neg (by omega), decide_eq_false (fun e => hl (by rw [e]))]
theorem equal_ev (a b : List (List UInt8)) (ha : a.length ≤ 1000000) (k : Nat) (hk : a.length < k) : slices_Equal_string_string.f k (a.map M) (b.map M) = some (decide (a = b)) := by
  unfold slices_Equal_string_string.f
  rw [List.length_map, List.length_map]
  by_cases hl : a.length = b.length
  · rw [if_pos (by omega)]
    have h := eq_loop (F := fun k i => slices_Equal_string_string.l0 k (a.map M) (b.map M) (a.length : Int) i) hl (by omega) (fun k => by simp only [slices_Equal_string_string.l0]; rw [if_neg (by omega)])
      (fun k i h h' e => by simp only [slices_Equal_string_string.l0]; rw [if_pos (by omega), if_pos (by omega), if_pos (by rw [List.length_map]; omega), if_pos (by rw [List.length_map]; omega), mget a i h, mget b i h', if_pos ((M_eq _ _).2 e), wrap64_in (by omega) (by omega)])
      (fun k i h h' e => by simp only [slices_Equal_string_string.l0]; rw [if_pos (by omega), if_pos (by omega), if_pos (by rw [List.length_map]; omega), if_pos (by rw [List.length_map]; omega), mget a i h, mget b i h', if_neg (fun q => e ((M_eq _ _).1 q))])
      a.length 0 k (by omega) (by omega) hk
    rw [List.drop_zero, List.drop_zero] at h
    exact h
  · rw [if_neg (by omega), decide_eq_false (fun e => hl (by rw [e]))]
theorem map_M (l : List (List UInt8)) : (l.map M).map (fun s : ByteArray => s.data.toList) = l := by
  rw [List.map_map]
  have e : ((fun s : ByteArray => s.data.toList) ∘ M) = id := by funext x; rfl
  rw [e, List.map_id]
theorem len_tot (l : List (List UInt8)) : l.length ≤ tot l := by
  induction l with
  | nil => simp
  | cons a r ih => rw [tot_cons, List.length_cons]; omega
theorem join_ev (l : List (List UInt8)) (h : tot l ≤ 1000000) : name_Join.f (l.map M) = some (M (J l)) := by
  unfold name_Join.f J
  rw [List.length_map]
  cases l with
  | nil => rw [if_pos (show (([] : List (List UInt8)).length : Int) = 0 from rfl), if_pos rfl]; rfl
  | cons x r =>
    have hj : (Lib.join (x :: r) [47]).length + 1 = tot (x :: r) := by rw [← jn_len, ← jn_join, List.length_cons]
    have ht := len_tot (x :: r)
    have e1 : strings_Join.f ((x :: r).map M) ⟨#[47]⟩ = some (M (Lib.join (x :: r) [47])) := by
      unfold strings_Join.f
      rw [map_M, List.length_map]
      have e2 : (⟨#[47]⟩ : ByteArray).data.toList = [47] := rfl
      rw [e2, if_pos ⟨by omega, by omega⟩]; rfl
    rw [if_neg (by simp only [List.length_cons]; omega), if_neg (by simp), e1, Option.bind_some, M_size, if_pos (by omega)]
    congr 1
    show M [47] ++ M _ = _
    rw [M_add, ← jn_join]; rfl
theorem take_M (l : List (List UInt8)) (n : Nat) : (l.map M).take n = (l.take n).map M := List.map_take.symm
theorem split_len (a : List UInt8) (h : a.length ≤ 1000) : (split a).1.length ≤ 1000 := by
  by_cases c : (split a).2 = 0
  · have := (split_facts a c).2.1; have := len_tot (split a).1; omega
  · rw [(split_bad a c).1]; simp
theorem under_ev (a b : List UInt8) (ha : a.length ≤ 1000) (hb : b.length ≤ 1000) (k : Nat) (hk : 2000 < k) : name_Under.f k (M a) (M b) = some (decide (Un a b)) := by
  unfold name_Under.f
  rw [split_ev a k (by omega) ha, Option.bind_some, split_ev b k (by omega) hb, Option.bind_some]
  have la := split_len a ha
  have lb := split_len b hb
  show (if (split a).2 = 0 then _ else _) = _
  simp only [enc, List.length_map]
  by_cases c1 : (split a).2 = 0
  · rw [if_pos c1]
    by_cases c2 : (split b).2 = 0
    · rw [if_pos c2]
      by_cases c3 : (split b).1.length < (split a).1.length
      · rw [if_pos (by omega), if_pos (by omega), if_pos (by omega), Int.toNat_natCast, take_M, equal_ev _ _ (by rw [List.length_take]; omega) k (by rw [List.length_take]; omega), Option.bind_some]
        congr 1
        rw [decide_eq_decide]
        exact ⟨fun e => ⟨c1, c2, c3, e⟩, fun e => e.2.2.2⟩
      · rw [if_neg (by omega), decide_eq_false (fun e => c3 e.2.2.1)]
    · rw [if_neg c2, decide_eq_false (fun e => c2 e.2.1)]
  · rw [if_neg c1, decide_eq_false (fun e => c1 e.1)]
theorem dropLast_take {α : Type} (l : List α) : l.take (l.length - 1) = l.dropLast := List.dropLast_eq_take.symm
theorem base_bad (a : List UInt8) (ha : a.length ≤ 1000) (k : Nat) (hk : 2000 < k) (h : (split a).2 ≠ 0) : name_Base.f k (M a) = some (M [], M [], (split a).2) := by
  unfold name_Base.f
  rw [split_ev a k (by omega) ha, Option.bind_some]
  show (if (split a).2 = 0 then _ else _) = _
  rw [if_neg h]; rfl
theorem base_nil (a : List UInt8) (ha : a.length ≤ 1000) (k : Nat) (hk : 2000 < k) (h : (split a).2 = 0) (hn : (split a).1 = []) : name_Base.f k (M a) = some (M [], M [], 22) := by
  unfold name_Base.f
  rw [split_ev a k (by omega) ha, Option.bind_some]
  show (if (split a).2 = 0 then _ else _) = _
  rw [if_pos h]
  show (if ((((split a).1.map M).length : Nat) : Int) = 0 then _ else _) = _
  rw [hn]; rfl
theorem base_ok (a : List UInt8) (ha : a.length ≤ 1000) (k : Nat) (hk : 2000 < k) (h : (split a).2 = 0) (hn : (split a).1 ≠ []) : name_Base.f k (M a) = some (M (J (split a).1.dropLast), M ((split a).1.getLast hn), 0) := by
  have hl := split_len a ha
  have hp : 0 < (split a).1.length := List.length_pos_iff.2 hn
  have hw : wrap64 (((split a).1.length : Int) - 1) = (((split a).1.length - 1 : Nat) : Int) := by rw [wrap64_in (by omega) (by omega)]; omega
  have ht : tot (split a).1.dropLast ≤ 1000000 := by
    have h1 := (split_facts a h).2.1
    have h2 : tot (split a).1 = tot (split a).1.dropLast + tot [(split a).1.getLast hn] := by rw [← tot_app, List.dropLast_concat_getLast hn]
    omega
  unfold name_Base.f
  rw [split_ev a k (by omega) ha, Option.bind_some]
  show (if (split a).2 = 0 then _ else _) = _
  rw [if_pos h]
  simp only [enc, List.length_map]
  rw [if_neg (by omega), hw, if_pos (by omega), if_pos (by omega), Int.toNat_natCast, take_M, dropLast_take, join_ev _ ht, Option.bind_some, if_pos (by omega), mget _ _ (by omega), List.getLast_eq_getElem]
theorem awake_ev (k : Nat) (hk : 2000 < k) : sumplaw08_awake.f k = some true := by
  unfold sumplaw08_awake.f
  have e0 : (⟨#[47, 47, 97, 47, 98, 47]⟩ : ByteArray) = M [47, 47, 97, 47, 98, 47] := rfl
  have e1 : split [47, 47, 97, 47, 98, 47] = ([[97], [98]], 0) := by decide
  have e2 : ([(⟨#[97]⟩ : ByteArray), (⟨#[98]⟩ : ByteArray)] : List ByteArray) = ([[97], [98]] : List (List UInt8)).map M := rfl
  rw [e0, split_ev _ k (by omega) (by decide), Option.bind_some, e1]
  show (if (0 : Int) = 0 then _ else _) = _
  rw [if_pos rfl, e2]
  show (sumpref01_SameTexts.f k (([[97], [98]] : List (List UInt8)).map M) _).bind _ = _
  rw [same_ev _ _ (by decide) k (by simp; omega), Option.bind_some]; rfl
theorem M_big (a : ByteArray) : ∃ l, a = M l ∧ a.size = l.length := by obtain ⟨l, rfl⟩ := M_of a; exact ⟨l, rfl, rfl⟩
theorem under_law (a b c : List UInt8) (ha : a.length ≤ 200) (hb : b.length ≤ 200) (hc : c.length ≤ 200) (k : Nat) (hk : 3000 < k) : sumplaw08_NameUnder.j0 k (M a) (M b) (M c) false = some true := by
  obtain ⟨k, rfl⟩ : ∃ m, k = m + 1 := ⟨k - 1, by omega⟩
  have uab := under_ev a b (by omega) (by omega) k (by omega)
  have uba := under_ev b a (by omega) (by omega) k (by omega)
  have ubc := under_ev b c (by omega) (by omega) k (by omega)
  have uac := under_ev a c (by omega) (by omega) k (by omega)
  have uaa := under_ev a a (by omega) (by omega) k (by omega)
  rw [decide_eq_false (Un_irr a)] at uaa
  have hj : sumplaw08_NameUnder.j1 k (M a) false = some true := by
    obtain ⟨k, rfl⟩ : ∃ m, k = m + 1 := ⟨k - 1, by omega⟩
    rw [sumplaw08_NameUnder.j1, if_neg Bool.false_ne_true]
    by_cases h : (split a).2 = 0
    · by_cases hn : (split a).1 = []
      · rw [base_nil a (by omega) k (by omega) h hn, Option.bind_some]; rfl
      · have hu := Un_up a h hn
        have hJ : (J (split a).1.dropLast).length ≤ 1000 := by
          have h1 := J_short (split a).1.dropLast
          have h3 := (split_facts a h).2.1
          have h2 : tot (split a).1 = tot (split a).1.dropLast + tot [(split a).1.getLast hn] := by rw [← tot_app, List.dropLast_concat_getLast hn]
          omega
        rw [base_ok a (by omega) k (by omega) h hn, Option.bind_some]
        show (if (0 : Int) = 0 then _ else _) = _
        rw [if_pos rfl, under_ev _ _ (by omega) hJ k (by omega), decide_eq_true hu]; rfl
    · rw [base_bad a (by omega) k (by omega) h, Option.bind_some]
      show (if (split a).2 = 0 then _ else _) = _
      rw [if_neg h]
  have tail : ((name_Under.f k (M a) (M a)).bind fun t185 => (if t185 = true then (sumplaw08_NameUnder.j1 k (M a) true) else ((name_Under.f k (M a) (M b)).bind fun t186 => (if t186 = true then ((name_Under.f k (M b) (M a)).bind fun t187 => (sumplaw08_NameUnder.j1 k (M a) t187)) else (sumplaw08_NameUnder.j1 k (M a) false))))) = some true := by
    rw [uaa, Option.bind_some, if_neg Bool.false_ne_true, uab, Option.bind_some]
    by_cases h1 : Un a b
    · rw [decide_eq_true h1, if_pos rfl, uba, decide_eq_false (fun h2 => Un_asym h1 h2), Option.bind_some]; exact hj
    · rw [decide_eq_false h1, if_neg Bool.false_ne_true]; exact hj
  rw [sumplaw08_NameUnder.j0, if_neg Bool.false_ne_true]
  by_cases h1 : Un a b
  · have uab' := uab
    rw [decide_eq_true h1] at uab'
    by_cases h2 : Un b c
    · have h3 := Un_trans h1 h2
      rw [decide_eq_true h2] at ubc
      rw [decide_eq_true h3] at uac
      rw [uab'] at tail ⊢
      rw [Option.bind_some, if_pos rfl, ubc, Option.bind_some, if_pos rfl, uac, Option.bind_some, if_pos rfl]
      exact tail
    · rw [decide_eq_false h2] at ubc
      rw [uab'] at tail ⊢
      rw [Option.bind_some, if_pos rfl, ubc, Option.bind_some, if_neg Bool.false_ne_true]
      exact tail
  · have uab' := uab
    rw [decide_eq_false h1] at uab'
    rw [uab'] at tail ⊢
    rw [Option.bind_some, if_neg Bool.false_ne_true]
    exact tail
end Go.Proofs.YteoklaofbdfjlaaDoor.Nm
