/- Names: what the printed functions come to. -/
import Derived.Test.YteoklaofbdfjlaaDoorPNamesx5
import Derived.Test.YteoklaofbdfjlaaDoorNl
import Derived.Test.YteoklaofbdfjlaaDoorQ
namespace Go.Proofs.YteoklaofbdfjlaaDoor.Nm
open Go.RowKit Go.Proofs.YteoklaofbdfjlaaDoorW.PrintWords Go.Proofs.YteoklaofbdfjlaaDoor.PNames Go.Proofs.YteoklaofbdfjlaaDoor.Nl Go.Proofs.YteoklaofbdfjlaaDoor.Q
set_option linter.unusedVariables false
set_option linter.unusedSimpArgs false
def M (l : List UInt8) : ByteArray := ⟨l.toArray⟩
theorem M_data (l : List UInt8) : (M l).data.toList = l := rfl
theorem M_toList (l : List UInt8) : (M l).toList = l := by rw [ByteArray.toList_eq]; rfl
theorem M_size (l : List UInt8) : (M l).size = l.length := rfl
theorem M_of (s : ByteArray) : ∃ l, s = M l := ⟨s.data.toList, by rcases s with ⟨⟨l⟩⟩; rfl⟩
theorem M_inj {a b : List UInt8} (h : M a = M b) : a = b := by have := congrArg (fun s : ByteArray => s.data.toList) h; exact this
theorem M_ext (s : ByteArray) (l : List UInt8) (h : s.toList = l) : s = M l := by
  obtain ⟨m, rfl⟩ := M_of s
  rw [M_toList] at h; rw [h]
theorem M_cut (l : List UInt8) (i j : Nat) : (M l).extract i j = M ((l.take j).drop i) := by
  apply M_ext
  rw [ByteArray.toList_eq, ByteArray.data_extract, Array.toList_extract, List.extract_eq_take_drop]
  show (l.drop i).take (j - i) = _
  rw [List.drop_take]
theorem M_add (a b : List UInt8) : M a ++ M b = M (a ++ b) := by
  apply M_ext
  rw [ByteArray.toList_eq, ByteArray.data_append, Array.toList_append]; rfl
theorem mget (ls : List (List UInt8)) (i : Nat) (h : i < ls.length) : rdOf ByteArray.empty (ls.map M) (i : Int) = M ls[i] := by
  unfold rdOf
  rw [Int.toNat_natCast, List.getD_eq_getElem?_getD, List.getElem?_map, List.getElem?_eq_getElem h]; rfl
theorem bt_M (l : List UInt8) (i : Nat) (h : i < l.length) : bt (M l) (i : Int) = (l[i].toNat : Int) := by
  rw [bt_toList _ _ (by rw [M_size]; exact h)]
  congr 2
  simp [M_toList]
theorem contains_ev (l : List UInt8) : strings_Contains.f (M l) ⟨#[47]⟩ = some (decide ((47 : UInt8) ∈ l)) := by
  unfold strings_Contains.f
  rw [if_pos rfl]; congr 1; rw [decide_eq_decide]; exact index_mem l 47
theorem contains0_ev (l : List UInt8) : strings_Contains.f (M l) ⟨#[0]⟩ = some (decide ((0 : UInt8) ∈ l)) := by
  unfold strings_Contains.f
  rw [if_neg (by decide), if_pos rfl]; congr 1; rw [decide_eq_decide]; exact index_mem l 0
theorem check_ev (l : List UInt8) (k : Nat) : name_Check.f (k + 2) (M l) = some (chk l) := by
  have hj : ∀ b, name_Check.j1 (k + 1) (M l) b = some (if b = true then 22 else if 24 < l.length then 36 else 0) := by
    intro b
    rw [name_Check.j1, M_size]
    cases b with
    | true => rw [if_pos rfl, if_pos rfl]
    | false =>
      rw [if_neg Bool.false_ne_true, if_neg Bool.false_ne_true]
      by_cases h : 24 < l.length
      · rw [if_pos (by omega), if_pos h]
      · rw [if_neg (by omega), if_neg h]
  have hj0 : ∀ b, name_Check.j0 (k + 2) (M l) b = some (if b = true then 22 else if (47 : UInt8) ∈ l ∨ (0 : UInt8) ∈ l then 22 else if 24 < l.length then 36 else 0) := by
    intro b
    rw [name_Check.j0]
    cases b with
    | true => rw [if_pos rfl, if_pos rfl]
    | false =>
      rw [if_neg Bool.false_ne_true, if_neg Bool.false_ne_true, contains_ev, Option.bind_some]
      by_cases h : (47 : UInt8) ∈ l
      · rw [decide_eq_true h, if_pos rfl, hj, if_pos rfl, if_pos (Or.inl h)]
      · rw [decide_eq_false h, if_neg Bool.false_ne_true, contains0_ev, Option.bind_some, hj]
        by_cases h2 : (0 : UInt8) ∈ l
        · rw [decide_eq_true h2, if_pos rfl, if_pos (Or.inr h2)]
        · rw [decide_eq_false h2, if_neg Bool.false_ne_true, if_neg (show ¬((47 : UInt8) ∈ l ∨ (0 : UInt8) ∈ l) from fun e => e.elim h h2)]
  unfold name_Check.f chk
  rw [M_toList]
  by_cases h1 : l = []
  · rw [if_pos h1, hj0, if_pos rfl, if_pos (Or.inl h1)]
  · rw [if_neg h1]
    by_cases h2 : l = [46]
    · rw [if_pos h2, hj0, if_pos rfl, if_pos (Or.inr (Or.inl h2))]
    · rw [if_neg h2, hj0]
      by_cases h3 : l = [46, 46]
      · rw [if_pos (by rw [h3]; rfl), if_pos (Or.inr (Or.inr (Or.inl h3)))]
      · rw [if_neg (by simpa using h3)]
        by_cases h4 : (47 : UInt8) ∈ l ∨ (0 : UInt8) ∈ l
        · rw [if_pos h4, if_pos (Or.inr (Or.inr (Or.inr h4)))]
        · rw [if_neg h4, if_neg (show ¬(l = [] ∨ l = [46] ∨ l = [46, 46] ∨ (47 : UInt8) ∈ l ∨ (0 : UInt8) ∈ l) from fun e => e.elim h1 (fun e => e.elim h2 (fun e => e.elim h3 h4)))]
/-! Split. -/
theorem rep_set {α : Type} (d : List α) (n : Nat) (e x : α) : (d ++ List.replicate (n + 1) e).set d.length x = (d ++ [x]) ++ List.replicate n e := by
  rw [List.set_append_right _ _ (Nat.le_refl _), Nat.sub_self, List.replicate_succ, List.set_cons_zero, List.append_assoc]; rfl
theorem w_succ (n : Nat) (h : n < 4611686018427387904) : wrap64 ((n : Int) + 1) = ((n + 1 : Nat) : Int) := by rw [wrap64_in (by omega) (by omega)]; omega
theorem w_zero (n : Nat) (h : n < 4611686018427387904) : wrap64 ((n : Int) + 0) = (n : Int) := by rw [wrap64_in (by omega) (by omega)]; omega
theorem gen_loop : ∀ (n : Nat) (l : List UInt8) (done : List ByteArray) (k : Nat), l.count 47 = n → done.length + n < 4611686018427387904 → l.length < 4611686018427387904 → n < k →
    strings_genSplit.l0 k (M l) ⟨#[47]⟩ 0 ((done.length + n : Nat) : Int) (done ++ List.replicate (n + 1) ⟨#[]⟩) (done.length : Int) = some (done ++ (parts l).map M) := by
  intro n
  induction n with
  | zero =>
    intro l done k hc hd hl hk
    obtain ⟨k, rfl⟩ : ∃ m, k = m + 1 := ⟨k - 1, by omega⟩
    have hw : wrap64 ((done.length : Int) + 1) = ((done.length + 1 : Nat) : Int) := by rw [wrap64_in (by omega) (by omega)]; omega
    have hp : parts l = [l] := parts_last l (List.count_eq_zero.1 hc)
    rw [strings_genSplit.l0, if_neg (by omega), if_pos (by omega), if_pos (by simp only [List.length_append, List.length_replicate]; omega), hw, if_pos (by omega), if_pos (by simp only [List.length_append, List.length_replicate]; omega), Int.toNat_natCast, Int.toNat_natCast, rep_set, hp]
    congr 1
    rw [List.replicate_zero, List.append_nil, List.take_of_length_le (by simp)]
    rfl
  | succ n ih =>
    intro l done k hc hd hl hk
    obtain ⟨k, rfl⟩ : ∃ m, k = m + 1 := ⟨k - 1, by omega⟩
    obtain ⟨s, r, rfl, hs, hr⟩ := cut_at l n hc
    have q2 : (done.length : Int) < ((done ++ List.replicate (n + 1 + 1) (⟨#[]⟩ : ByteArray)).length : Int) := by rw [List.length_append, List.length_replicate]; omega
    have q4 : (done.length : Int) < ((done.length + (n + 1) : Nat) : Int) := by omega
    have q5 : ¬ (s.length : Int) < 0 := Int.not_lt.2 (Int.natCast_nonneg _)
    have q6 : (0 : Int) ≤ (s.length : Int) := Int.natCast_nonneg _
    have q7 : (0 : Int) ≤ (done.length : Int) := Int.natCast_nonneg _
    have q8 : (0 : Int) ≤ ((s.length + 1 : Nat) : Int) := Int.natCast_nonneg _
    have q9 : (done ++ [M s]).length + n < 4611686018427387904 := by rw [List.length_append, List.length_singleton]; omega
    have q10 : r.length < 4611686018427387904 := by rw [List.length_append, List.length_cons] at hl; omega
    have q11 : n < k := by omega
    have q12 : s.length < 4611686018427387904 := by rw [List.length_append, List.length_cons] at hl; omega
    have q13 : done.length < 4611686018427387904 := by omega
    have hM : (M (s ++ 47 :: r)).size = s.length + (r.length + 1) := by rw [M_size]; simp
    have q1 : (s.length : Int) ≤ ((M (s ++ 47 :: r)).size : Int) := by rw [hM]; omega
    have q3 : ((s.length + 1 : Nat) : Int) ≤ ((M (s ++ 47 :: r)).size : Int) := by rw [hM]; omega
    have e30 : (done ++ [M s]).length + n = done.length + (n + 1) := by rw [List.length_append, List.length_singleton]; omega
    have hi : strings_Index.f (M (s ++ 47 :: r)) ⟨#[47]⟩ = some (s.length : Int) := by
      unfold strings_Index.f
      rw [if_pos rfl, M_data, index_seg s r 47 hs]
    have hw0 := w_zero s.length q12
    have hsz : (((⟨#[47]⟩ : ByteArray).size : Nat) : Int) = 1 := rfl
    have hw1 := w_succ s.length q12
    have hw2 := w_succ done.length q13
    have e1 : (M (s ++ 47 :: r)).extract 0 s.length = M s := by rw [M_cut]; simp
    have e2 : (M (s ++ 47 :: r)).extract (s.length + 1) (M (s ++ 47 :: r)).size = M r := by
      rw [M_cut, hM, List.take_of_length_le (by simp), List.drop_append, List.drop_eq_nil_of_le (Nat.le_succ _), List.nil_append, Nat.add_sub_cancel_left, List.drop_one, List.tail_cons]
    rw [strings_genSplit.l0, if_pos q4, hi, Option.bind_some, if_neg q5, hw0, if_pos q6, if_pos q1, if_pos q7, if_pos q2, hsz, hw1, if_pos q8, if_pos q3, hw2, Int.toNat_natCast, Int.toNat_natCast, Int.toNat_natCast, e1, e2, rep_set, parts_seg s r hs]
    have hh := ih r (done ++ [M s]) k hr q9 q10 q11
    have e3 : (done ++ [M s]).length = done.length + 1 := by simp
    rw [e30, e3] at hh
    rw [hh, List.map_cons, List.append_assoc]; rfl
theorem ssplit_ev (l : List UInt8) (hl : l.length ≤ 1000000) (k : Nat) (hk : l.length + 2 < k) : strings_Split.f k (M l) ⟨#[47]⟩ = some ((parts l).map M) := by
  have hc : l.count 47 ≤ l.length := List.count_le_length
  have hcount : strings_Count.f (M l) ⟨#[47]⟩ = some ((l.count 47 : Nat) : Int) := by unfold strings_Count.f; rw [if_pos rfl]; rfl
  have hw : wrap64 (((l.count 47 : Nat) : Int) + 1) = ((l.count 47 + 1 : Nat) : Int) := by rw [wrap64_in (by omega) (by omega)]; omega
  have hw1 : wrap64 (((M l).size : Int) + 1) = ((l.length + 1 : Nat) : Int) := by rw [M_size, wrap64_in (by omega) (by omega)]; omega
  have hm : mn ((l.count 47 + 1 : Nat) : Int) ((l.length + 1 : Nat) : Int) = ((l.count 47 + 1 : Nat) : Int) := by unfold mn; split <;> omega
  have hw2 : wrap64 (((l.count 47 + 1 : Nat) : Int) - 1) = ((0 + l.count 47 : Nat) : Int) := by rw [wrap64_in (by omega) (by omega)]; omega
  obtain ⟨k, rfl⟩ : ∃ m, k = m + 1 := ⟨k - 1, by omega⟩
  have hg := gen_loop (l.count 47) l [] k rfl (by simp; omega) (by omega) (by omega)
  unfold strings_Split.f strings_genSplit.f
  rw [if_neg (by decide), if_neg (by rw [show (⟨#[47]⟩ : ByteArray) = M [47] from rfl, M_toList]; simp), if_pos (by decide), hcount, Option.bind_some, hw, strings_genSplit.j0, hw1, hm, if_pos (by omega), if_pos (by omega), hw2, Int.toNat_natCast]
  rw [List.length_nil, List.nil_append, List.nil_append] at hg
  have hg2 : strings_genSplit.l0 k (M l) ⟨#[47]⟩ 0 ((0 + l.count 47 : Nat) : Int) (List.replicate (l.count 47 + 1) ⟨#[]⟩) 0 = some ((parts l).map M) := hg
  rw [hg2]; rfl
def enc (p : List (List UInt8) × Int) : List ByteArray × Int := (p.1.map M, p.2)
theorem nsplit_loop (ps : List (List UInt8)) (hps : ps.length < 1000000000) (hz : ∀ p ∈ ps, True) : ∀ (d i : Nat) (acc : List (List UInt8)) (k : Nat), ps.length - i = d → i ≤ ps.length → acc.length + d < 8796093022208 → d + 2 < k →
    name_Split.l0 k (acc.map M) (ps.map M) (ps.length : Int) (i : Int) = some (enc (go acc (ps.drop i))) := by
  intro d
  induction d with
  | zero =>
    intro i acc k hd hi ha hk
    obtain ⟨k, rfl⟩ : ∃ m, k = m + 1 := ⟨k - 1, by omega⟩
    rw [name_Split.l0, if_neg (by omega), List.drop_eq_nil_of_le (by omega)]; rfl
  | succ d ih =>
    intro i acc k hd hi ha hk
    obtain ⟨k, rfl⟩ : ∃ m, k = m + 1 := ⟨k - 1, by omega⟩
    have h1 : i < ps.length := by omega
    have hw : wrap64 ((i : Int) + 1) = ((i + 1 : Nat) : Int) := by rw [wrap64_in (by omega) (by omega)]; omega
    rw [name_Split.l0, if_pos (by omega), if_pos (by omega), if_pos (by rw [List.length_map]; omega), mget ps i h1, M_toList, hw, List.drop_eq_getElem_cons h1, go]
    by_cases c : ps[i] = []
    · rw [if_pos c, if_pos c]
      exact ih (i + 1) acc k (by omega) (by omega) (by omega) (by omega)
    · rw [if_neg c, if_neg c]
      obtain ⟨k2, rfl⟩ : ∃ m, k = m + 2 := ⟨k - 2, by omega⟩
      rw [check_ev, Option.bind_some]
      by_cases e : chk ps[i] = 0
      · rw [if_pos e, if_pos e, if_pos (by rw [List.length_map]; omega)]
        have := ih (i + 1) (acc ++ [ps[i]]) (k2 + 2) (by omega) (by omega) (by simp; omega) (by omega)
        rw [List.map_append] at this
        exact this
      · rw [if_neg e, if_neg e]; rfl
theorem hasp_ev (l : List UInt8) (hl : l.length ≤ 1000) : strings_HasPrefix.f (M l) ⟨#[47]⟩ = some (decide (l.head? = some 47)) := by
  have h1 : (((⟨#[47]⟩ : ByteArray).size : Nat) : Int) = 1 := rfl
  have h2 : (⟨#[47]⟩ : ByteArray).toList = [47] := M_toList [47]
  unfold strings_HasPrefix.f stringslite_HasPrefix.f
  rw [h1, M_size, h2]
  cases l with
  | nil => rw [if_neg (by simp)]; rfl
  | cons x t =>
    rw [if_pos (by simp only [List.length_cons]; omega), if_pos (by omega), if_pos (by simp only [List.length_cons]; omega), M_cut, M_toList]
    rw [Option.bind_some]
    congr 1
    by_cases e : x = 47
    · subst e; simp
    · simp [e]
theorem parts_len (l : List UInt8) : (parts l).length ≤ l.length + 1 := by
  have h := parts_tot l
  have : ∀ ls : List (List UInt8), ls.length ≤ tot ls := by
    intro ls; induction ls with
    | nil => simp
    | cons a r ih => rw [tot_cons, List.length_cons]; omega
  have := this (parts l); omega
theorem split_ev (l : List UInt8) (k : Nat) (hk : 200 < k) (hl : l.length ≤ 1000) : name_Split.f k (M l) = some (enc (split l)) := by
  unfold name_Split.f split
  rw [M_size]
  by_cases c : 120 < l.length
  · rw [if_pos (by omega), if_pos c]; rfl
  · rw [if_neg (by omega), if_neg c, hasp_ev l hl, Option.bind_some]
    by_cases d : l.head? = some 47
    · have hpl := parts_len l
      rw [decide_eq_true d, if_pos rfl, if_pos d, ssplit_ev l (by omega) k (by omega), Option.bind_some, List.length_map]
      exact nsplit_loop (parts l) (by omega) (fun _ _ => trivial) (parts l).length 0 [] k (by omega) (by omega) (by simp; omega) (by omega)
    · rw [decide_eq_false d, if_neg (by decide), if_neg d]; rfl
end Go.Proofs.YteoklaofbdfjlaaDoor.Nm
