/- Entries, plainly: names' checks, right rows, what is put and dropped. -/
import Derived.Test.YteoklaofbdfjlaaDf2
import Derived.Test.YteoklaofbdfjlaaPDirsx4
import Derived.Lib.IndexLaws
namespace Go.Proofs.Yteoklaofbdfjlaa.PDirs
open Go.RowKit Go.Proofs.YteoklaofbdfjlaaW.PrintWords Go.Proofs.Yteoklaofbdfjlaa.Q
set_option linter.unusedVariables false
theorem less_tri {a b : List UInt8} (h : Op.bytesLess a b = false) (hne : a ≠ b) : Op.bytesLess b a = true := by
  rw [Go.Proofs.bytesLess_eq] at *
  have h := of_decide_eq_false h
  refine decide_eq_true ?_
  rcases Std.lt_trichotomy a b with h1 | h1 | h1
  · exact absurd h1 h
  · exact absurd h1 hne
  · exact h1
/-- The code of a name. -/
def chk (s : ByteArray) : Int :=
  if s.toList = [] then 22 else if s.toList = [46] then 22 else if s.toList = [46, 46] then 22 else if 0 ≤ Lib.indexByte s.data.toList 47 then 22 else if 0 ≤ Lib.indexByte s.data.toList 0 then 22 else if (s.size : Int) > 24 then 36 else 0
theorem check_ev (s : ByteArray) (k : Nat) (hk : 2 < k) : name_Check.f k s = some (chk s) := by
  obtain ⟨k, rfl⟩ : ∃ m, k = m + 2 := ⟨k - 2, by omega⟩
  unfold name_Check.f chk
  by_cases c1 : s.toList = []
  · rw [if_pos c1, if_pos c1, name_Check.j0, if_pos rfl]
  rw [if_neg c1, if_neg c1]
  by_cases c2 : s.toList = [46]
  · rw [if_pos c2, if_pos c2, name_Check.j0, if_pos rfl]
  rw [if_neg c2, if_neg c2, name_Check.j0]
  by_cases c3 : s.toList = [46, 46]
  · rw [if_pos (beq_iff_eq.2 c3), if_pos c3]
  rw [if_neg (fun h => c3 (beq_iff_eq.1 h)), if_neg c3, contains_47, Option.bind_some]
  by_cases c4 : 0 ≤ Lib.indexByte s.data.toList 47
  · rw [if_pos (decide_eq_true c4), if_pos c4, name_Check.j1, if_pos rfl]
  rw [if_neg (by simpa using c4), if_neg c4, contains_0, Option.bind_some, name_Check.j1]
  by_cases c5 : 0 ≤ Lib.indexByte s.data.toList 0
  · rw [if_pos (decide_eq_true c5), if_pos c5]
  rw [if_neg (by simpa using c5), if_neg c5]
  by_cases c6 : (s.size : Int) > 24
  · rw [if_pos c6, if_pos c6]
  · rw [if_neg c6, if_neg c6]
def good (x : S49) : Prop := chk x.f0 = 0 ∧ 1 ≤ x.f1 ∧ x.f1 ≤ 1048576
instance (x : S49) : Decidable (good x) := by unfold good; infer_instance
def lt (a b : S49) : Prop := Op.bytesLess (nm a) (nm b) = true
instance (a b : S49) : Decidable (lt a b) := by unfold lt; infer_instance
def rightAt (l : List S49) (j : Nat) (h : j < l.length) : Prop := good l[j] ∧ (0 < j → lt (l[j - 1]'(by omega)) l[j])
theorem right_loop2 (l : List S49) (hb : l.length ≤ 1000) : ∀ (m i k : Nat), l.length - i = m → i ≤ l.length → 2 * m + 5 < k → ∃ r, dirs_Right.l0 k l l (l.length : Int) (i : Int) = some r ∧ (r = true ↔ ∀ j, i ≤ j → ∀ h : j < l.length, rightAt l j h) := by
  intro m
  induction m with
  | zero =>
    intro i k h1 h2 h3
    obtain ⟨k, rfl⟩ : ∃ m, k = m + 1 := ⟨k - 1, by omega⟩
    rw [dirs_Right.l0, if_neg (by omega)]
    exact ⟨_, rfl, fun _ j hj h => by omega, fun _ => rfl⟩
  | succ m ih =>
    intro i k h1 h2 h3
    obtain ⟨k, rfl⟩ : ∃ m, k = m + 2 := ⟨k - 2, by omega⟩
    have hi : i < l.length := by omega
    obtain ⟨r, hr, hr2⟩ := ih (i + 1) k (by omega) (by omega) (by omega)
    have hw : wrap64 ((i : Int) + 1) = ((i + 1 : Nat) : Int) := by rw [wrap64_in (by omega) (by omega)]; rfl
    have hsplit : (∀ j, i ≤ j → ∀ h : j < l.length, rightAt l j h) ↔ rightAt l i hi ∧ ∀ j, i + 1 ≤ j → ∀ h : j < l.length, rightAt l j h := by
      constructor
      · intro h; exact ⟨h i (Nat.le_refl _) hi, fun j hj hl => h j (by omega) hl⟩
      · rintro ⟨h, h'⟩ j hj hl
        rcases Nat.eq_or_lt_of_le hj with rfl | hj
        · exact h
        · exact h' j hj hl
    have hj : ∀ b y, ∃ q, dirs_Right.j1 (k + 1) l (i : Int) l (l.length : Int) (i : Int) b l[i].f0 y = some q ∧ (q = true ↔ (b = false ∧ (0 < i → lt (l[i - 1]'(by omega)) l[i])) ∧ ∀ j, i + 1 ≤ j → ∀ h : j < l.length, rightAt l j h) := by
      intro b y
      rw [dirs_Right.j1]
      cases b with
      | true => rw [if_pos rfl]; exact ⟨_, rfl, ⟨(fun h => by cases h), (fun h => by cases h.1.1)⟩⟩
      | false =>
        rw [if_neg (by decide)]
        by_cases h0 : (i : Int) > 0
        · have hw1 : wrap64 ((i : Int) - 1) = ((i - 1 : Nat) : Int) := by rw [wrap64_in (by omega) (by omega)]; omega
          rw [if_pos h0, hw1, if_pos (by omega), if_pos (by omega), rdt l (i - 1) (by omega)]
          unfold name_Less.f
          rw [Option.bind_some]
          by_cases c : Op.bytesLess (l[i - 1]'(by omega)).f0.toList l[i].f0.toList = true
          · rw [if_pos c, hw, hr]
            refine ⟨r, rfl, ?_⟩
            rw [hr2]
            exact ⟨fun h => ⟨⟨rfl, fun _ => c⟩, h⟩, fun h => h.2⟩
          · rw [if_neg c]
            exact ⟨_, rfl, fun h => by (first | cases h | exact absurd h (by simp)), fun h => absurd (h.1.2 (by omega)) c⟩
        · rw [if_neg h0, hw, hr]
          refine ⟨r, rfl, ?_⟩
          rw [hr2]
          exact ⟨fun h => ⟨⟨rfl, fun h' => absurd h' (by omega)⟩, h⟩, fun h => h.2⟩
    rw [dirs_Right.l0, if_pos (by omega), if_pos (by omega), if_pos (by omega), rdt l i hi, check_ev _ _ (by omega), Option.bind_some]
    rw [hsplit]
    unfold rightAt good
    by_cases c1 : chk l[i].f0 = 0
    · rw [if_pos c1]
      by_cases c2 : l[i].f1 < 1
      · rw [if_pos c2]
        obtain ⟨q, hq, hq2⟩ := hj true l[i].f1
        refine ⟨q, hq, ?_⟩
        rw [hq2]
        exact ⟨(fun h => by cases h.1.1), (fun h => by omega)⟩
      · rw [if_neg c2]
        obtain ⟨q, hq, hq2⟩ := hj (decide (l[i].f1 > 1048576)) l[i].f1
        refine ⟨q, hq, ?_⟩
        rw [hq2, decide_eq_false_iff_not]
        exact ⟨fun h => ⟨⟨⟨c1, by omega, by omega⟩, h.1.2⟩, h.2⟩, fun h => ⟨⟨by omega, h.1.2⟩, h.2⟩⟩
    · rw [if_neg c1]
      obtain ⟨q, hq, hq2⟩ := hj true l[i].f1
      refine ⟨q, hq, ?_⟩
      rw [hq2]
      exact ⟨(fun h => by cases h.1.1), (fun h => absurd h.1.1.1 c1)⟩
def RightP (l : List S49) : Prop := (∀ x ∈ l, good x) ∧ l.Pairwise lt
theorem right_iff (l : List S49) : (∀ j, 0 ≤ j → ∀ h : j < l.length, rightAt l j h) ↔ RightP l := by
  constructor
  · intro h
    refine ⟨fun x hx => ?_, ?_⟩
    · obtain ⟨j, hj, rfl⟩ := List.getElem_of_mem hx
      exact (h j (Nat.zero_le _) hj).1
    · rw [List.pairwise_iff_getElem]
      intro i j hi hj hij
      have ha : Asc l 0 := fun j _ hj h0 => (h j (Nat.zero_le _) hj).2 h0
      have := asc_lt ha (j - i - 1) i (by omega)
      have e : i + (j - i - 1) + 1 = j := by omega
      simp only [e] at this
      exact this
  · rintro ⟨h1, h2⟩ j _ hj
    refine ⟨h1 _ (List.getElem_mem hj), fun h0 => ?_⟩
    rw [List.pairwise_iff_getElem] at h2
    exact h2 (j - 1) j (by omega) hj (by omega)
theorem right_ev2 (l : List S49) (hb : l.length ≤ 1000) (k : Nat) (hk : 2 * l.length + 5 < k) : ∃ r, dirs_Right.f k l = some r ∧ (r = true ↔ RightP l) := by
  obtain ⟨r, hr, hr2⟩ := right_loop2 l hb l.length 0 k (by omega) (by omega) hk
  rw [right_iff] at hr2
  exact ⟨r, hr, hr2⟩
/-! ### what is put -/
def ins (l : List S49) (x : S49) (i : Nat) : List S49 := l.take i ++ x :: l.drop i
theorem before (l : List S49) (s : ByteArray) (hne : ∀ x ∈ l, nm x ≠ s.toList) : ∀ x ∈ l.take (dirs_Put.at l s), Op.bytesLess (nm x) s.toList = true := by
  intro x hx
  obtain ⟨j, hj, rfl⟩ := List.getElem_of_mem hx
  rw [List.length_take] at hj
  rw [List.getElem_take]
  have := List.not_of_lt_findIdx (p := fun x : S49 => Op.bytesLess s.toList x.f0.toList) (xs := l) (i := j) (show j < l.findIdx _ by unfold dirs_Put.at at hj; omega)
  exact less_tri (by simpa [nm] using this) (fun e => hne _ (List.getElem_mem _) e.symm)
theorem behind (l : List S49) (s : ByteArray) (hp : l.Pairwise lt) : ∀ x ∈ l.drop (dirs_Put.at l s), Op.bytesLess s.toList (nm x) = true := by
  intro x hx
  obtain ⟨j, hj, rfl⟩ := List.getElem_of_mem hx
  rw [List.length_drop] at hj
  rw [List.getElem_drop]
  have hl : l.findIdx (fun x : S49 => Op.bytesLess s.toList x.f0.toList) < l.length := by unfold dirs_Put.at at hj; omega
  have h0 := List.findIdx_getElem (p := fun x : S49 => Op.bytesLess s.toList x.f0.toList) (xs := l) (w := hl)
  rcases Nat.eq_zero_or_pos j with rfl | h1
  · simpa [dirs_Put.at, nm] using h0
  · rw [List.pairwise_iff_getElem] at hp
    have := hp (dirs_Put.at l s) (dirs_Put.at l s + j) hl (by omega) (by omega)
    exact less_trans h0 this
theorem ins_right (l : List S49) (s : ByteArray) (n : Int) (h : RightP l) (hne : ∀ x ∈ l, nm x ≠ s.toList) (hg : good ⟨s, n⟩) : RightP (ins l ⟨s, n⟩ (dirs_Put.at l s)) := by
  have hb := before l s hne
  have ha := behind l s h.2
  unfold ins
  refine ⟨fun x hx => ?_, ?_⟩
  · rcases List.mem_append.1 hx with hx | hx
    · exact h.1 x (List.mem_of_mem_take hx)
    · rcases List.mem_cons.1 hx with rfl | hx
      · exact hg
      · exact h.1 x (List.mem_of_mem_drop hx)
  · rw [List.pairwise_append, List.pairwise_cons]
    refine ⟨h.2.sublist (List.take_sublist _ _), ⟨fun x hx => ha x hx, h.2.sublist (List.drop_sublist _ _)⟩, fun a hx b hb' => ?_⟩
    rcases List.mem_cons.1 hb' with rfl | hb'
    · exact hb a hx
    · exact less_trans (hb a hx) (ha b hb')
theorem out_ins (l : List S49) (s : ByteArray) (n : Int) (i : Nat) (hne : ∀ x ∈ l, nm x ≠ s.toList) : out s (ins l ⟨s, n⟩ i) = l := by
  unfold out ins
  rw [List.filter_append, List.filter_cons_of_neg (by simp)]
  have h1 : (l.take i).filter (fun x => decide (¬ x.f0.toList = s.toList)) = l.take i := out_none (fun x hx => hne x (List.mem_of_mem_take hx))
  have h2 : (l.drop i).filter (fun x => decide (¬ x.f0.toList = s.toList)) = l.drop i := out_none (fun x hx => hne x (List.mem_of_mem_drop hx))
  rw [h1, h2, List.take_append_drop]
theorem ins_length (l : List S49) (x : S49) (i : Nat) : (ins l x i).length = l.length + 1 := by
  unfold ins
  rw [List.length_append, List.length_cons, List.length_take, List.length_drop]; omega
theorem put_ev (l : List S49) (s : ByteArray) (n : Int) (hl : l.length ≤ 1000) (hne : ∀ x ∈ l, nm x ≠ s.toList) : dirs_Put.f l s n = some (ins l ⟨s, n⟩ (dirs_Put.at l s), true) := by
  unfold dirs_Put.f
  rw [if_pos hl, if_neg (by simpa [nm] using hne)]; rfl
theorem put_there (l : List S49) (s : ByteArray) (n : Int) (hl : l.length ≤ 1000) (x : S49) (hx : x ∈ l) (e : nm x = s.toList) : dirs_Put.f l s n = some (l, false) := by
  unfold dirs_Put.f
  rw [if_pos hl, if_pos (List.any_eq_true.2 ⟨x, hx, decide_eq_true e⟩)]
/-! ### the same entries -/
theorem same_loop (a b : List S49) (hl : a.length = b.length) (hb : a.length ≤ 1000) : ∀ (m i k : Nat), a.length - i = m → i ≤ a.length → m < k → ∃ r, sumpref09_SameEntries.l0 k a b (a.length : Int) (i : Int) = some r ∧ (a.drop i = b.drop i → r = true) := by
  intro m
  induction m with
  | zero =>
    intro i k h1 h2 h3
    obtain ⟨k, rfl⟩ : ∃ m, k = m + 1 := ⟨k - 1, by omega⟩
    rw [sumpref09_SameEntries.l0, if_neg (by omega)]
    exact ⟨_, rfl, fun _ => rfl⟩
  | succ m ih =>
    intro i k h1 h2 h3
    obtain ⟨k, rfl⟩ : ∃ m, k = m + 1 := ⟨k - 1, by omega⟩
    have hi : i < a.length := by omega
    obtain ⟨r, hr, hr2⟩ := ih (i + 1) k (by omega) (by omega) (by omega)
    rw [sumpref09_SameEntries.l0, if_pos (by omega), if_pos (by omega), if_pos (by omega), if_pos (by omega), rdt a i hi, rdt b i (by omega), wrap64_in (by omega) (by omega)]
    have hd : a.drop i = b.drop i → a[i] = b[i]'(by omega) ∧ a.drop (i + 1) = b.drop (i + 1) := fun h => by
      rw [List.drop_eq_getElem_cons hi, List.drop_eq_getElem_cons (show i < b.length by omega)] at h
      exact List.cons.inj h
    split
    · rename_i c
      refine ⟨_, rfl, fun h => ?_⟩
      obtain ⟨e, _⟩ := hd h
      rw [e] at c
      simp at c
    · exact ⟨r, hr, fun h => hr2 (hd h).2⟩
theorem same_self (a : List S49) (hb : a.length ≤ 1000) (k : Nat) (hk : a.length < k) : sumpref09_SameEntries.f k a a = some true := by
  unfold sumpref09_SameEntries.f
  rw [if_pos rfl]
  obtain ⟨r, hr, hr2⟩ := same_loop a a rfl hb a.length 0 k (by omega) (by omega) hk
  rw [show ((0 : Nat) : Int) = 0 from rfl] at hr
  rw [hr, hr2 rfl]
/-! ### the document's check of a name -/
theorem name_loop (s : ByteArray) (hs : s.size ≤ 1000) : ∀ (m i k : Nat), s.size - i = m → i ≤ s.size → m < k → ∃ r, sumpref01_Name.l0 k s (i : Int) = some r ∧ (r = 0 ↔ (∀ j, i ≤ j → j < s.size → bt s (j : Int) ≠ 47 ∧ bt s (j : Int) ≠ 0) ∧ s.size ≤ 24) := by
  intro m
  induction m with
  | zero =>
    intro i k h1 h2 h3
    obtain ⟨k, rfl⟩ : ∃ m, k = m + 1 := ⟨k - 1, by omega⟩
    rw [sumpref01_Name.l0, if_neg (by omega)]
    by_cases c : (s.size : Int) > 24
    · rw [if_pos c]; exact ⟨_, rfl, fun h => by omega, fun h => by omega⟩
    · rw [if_neg c]; exact ⟨_, rfl, fun h => ⟨fun j hj hl => by omega, by omega⟩, fun _ => rfl⟩
  | succ m ih =>
    intro i k h1 h2 h3
    obtain ⟨k, rfl⟩ : ∃ m, k = m + 1 := ⟨k - 1, by omega⟩
    rw [sumpref01_Name.l0, if_pos (by omega), if_pos (by omega)]
    by_cases c1 : bt s (i : Int) = 47
    · rw [if_pos c1]; exact ⟨_, rfl, fun h => by omega, fun h => absurd c1 (h.1 i (by omega) (by omega)).1⟩
    rw [if_neg c1]
    by_cases c2 : bt s (i : Int) = 0
    · rw [if_pos c2]; exact ⟨_, rfl, fun h => by omega, fun h => absurd c2 (h.1 i (by omega) (by omega)).2⟩
    rw [if_neg c2, wrap64_in (by omega) (by omega)]
    obtain ⟨r, hr, hr2⟩ := ih (i + 1) k (by omega) (by omega) (by omega)
    refine ⟨r, hr, ?_⟩
    rw [hr2]
    constructor
    · rintro ⟨h, h'⟩
      refine ⟨fun j hj hl => ?_, h'⟩
      rcases Nat.eq_or_lt_of_le hj with rfl | hj
      · exact ⟨c1, c2⟩
      · exact h j hj hl
    · rintro ⟨h, h'⟩
      exact ⟨fun j hj hl => h j (by omega) hl, h'⟩
theorem no_byte (s : ByteArray) (c : UInt8) : (¬ 0 ≤ Lib.indexByte s.data.toList c) ↔ ∀ j, j < s.size → bt s (j : Int) ≠ c.toNat := by
  have hbt : ∀ j (h : j < s.size), bt s (j : Int) = (s[j].toNat : Int) := fun j h => by
    unfold bt
    rw [dif_pos (by simpa using h)]
    simp
  constructor
  · intro h j hj e
    have hge := Lib.indexByte_ge s.data.toList c
    have hn := Lib.indexByte_none (l := s.data.toList) (c := c) (by omega) j
    rw [hbt j hj] at e
    apply hn
    have : s[j] = c := UInt8.toNat_inj.1 (by omega)
    rw [← this]
    rw [Array.getElem?_toList, Array.getElem?_eq_getElem (by exact hj)]; rfl
  · intro h h0
    obtain ⟨o, ho⟩ : ∃ o : Nat, Lib.indexByte s.data.toList c = (o : Int) := ⟨(Lib.indexByte s.data.toList c).toNat, by omega⟩
    have := (Lib.indexByte_some (l := s.data.toList) (c := c) ho).1
    rw [Array.getElem?_toList] at this
    obtain ⟨hl, he⟩ := Array.getElem?_eq_some_iff.1 this
    have hl' : o < s.size := hl
    refine h o hl' ?_
    rw [hbt o hl']
    have : s[o] = c := he
    rw [this]
theorem name_ev (s : ByteArray) (hs : s.size ≤ 1000) (k : Nat) (hk : s.size + 1 < k) : ∃ r, sumpref01_Name.f k s = some r ∧ (r = 0 ↔ chk s = 0) := by
  obtain ⟨k, rfl⟩ : ∃ m, k = m + 1 := ⟨k - 1, by omega⟩
  unfold sumpref01_Name.f chk
  by_cases c1 : s.toList = []
  · rw [if_pos c1, if_pos c1, sumpref01_Name.j0, if_pos rfl]; exact ⟨_, rfl, Iff.rfl⟩
  rw [if_neg c1, if_neg c1]
  by_cases c2 : s.toList = [46]
  · rw [if_pos c2, if_pos c2, sumpref01_Name.j0, if_pos rfl]; exact ⟨_, rfl, Iff.rfl⟩
  rw [if_neg c2, if_neg c2, sumpref01_Name.j0]
  by_cases c3 : s.toList = [46, 46]
  · rw [if_pos (beq_iff_eq.2 c3), if_pos c3]; exact ⟨_, rfl, Iff.rfl⟩
  rw [if_neg (fun h => c3 (beq_iff_eq.1 h)), if_neg c3]
  obtain ⟨r, hr, hr2⟩ := name_loop s hs s.size 0 k (by omega) (by omega) (by omega)
  rw [show ((0 : Nat) : Int) = 0 from rfl] at hr
  refine ⟨r, hr, ?_⟩
  rw [hr2]
  have n1 := no_byte s 47
  have n2 := no_byte s 0
  by_cases c4 : 0 ≤ Lib.indexByte s.data.toList 47
  · rw [if_pos c4]
    refine ⟨fun h => absurd c4 (n1.2 (fun j hj => (h.1 j (Nat.zero_le _) hj).1)), fun h => by cases h⟩
  rw [if_neg c4]
  by_cases c5 : 0 ≤ Lib.indexByte s.data.toList 0
  · rw [if_pos c5]
    refine ⟨fun h => absurd c5 (n2.2 (fun j hj => (h.1 j (Nat.zero_le _) hj).2)), fun h => by cases h⟩
  rw [if_neg c5]
  by_cases c6 : (s.size : Int) > 24
  · rw [if_pos c6]; exact ⟨fun h => by omega, fun h => by cases h⟩
  · rw [if_neg c6]
    exact ⟨fun _ => rfl, fun _ => ⟨fun j _ hj => ⟨n1.1 c4 j hj, n2.1 c5 j hj⟩, by omega⟩⟩
end Go.Proofs.Yteoklaofbdfjlaa.PDirs
