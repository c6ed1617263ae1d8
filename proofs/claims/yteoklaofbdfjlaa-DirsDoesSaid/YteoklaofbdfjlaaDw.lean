/- DirsDoes: whatever entries there are: found, put, dropped, and whether they are right: the pure law. -/
import Derived.Test.YteoklaofbdfjlaaDv
import Derived.Test.YteoklaofbdfjlaaPDirsx6
namespace Go.Proofs.Yteoklaofbdfjlaa.PDirs
open Go.RowKit Go.Proofs.YteoklaofbdfjlaaW.PrintWords Go.Proofs.Yteoklaofbdfjlaa.Q
set_option linter.unusedVariables false
theorem wi {l : List S49} {i : Nat} (hi : i < l.length) (hb : l.length ≤ 1000) : wrap64 ((i : Int) + 1) = ((i + 1 : Nat) : Int) := by rw [wrap64_in (by omega) (by omega)]; rfl
theorem find_both (s : ByteArray) (l : List S49) (hb : l.length ≤ 1000) : ∀ (d i k : Nat), l.length - i = d → i ≤ l.length → d < k →
    ∃ v : Int, dirs_place.l0 k s l (l.length : Int) (i : Int) = some v ∧ ((v = -1 ∧ sumpref09_Find.l0 k s l (l.length : Int) (i : Int) = some (0, false)) ∨ (0 ≤ v ∧ v < l.length ∧ sumpref09_Find.l0 k s l (l.length : Int) (i : Int) = some ((rd_T49 l v).f1, true))) := by
  intro d
  induction d with
  | zero =>
    intro i k h1 h2 h3
    obtain ⟨k, rfl⟩ : ∃ m, k = m + 1 := ⟨k - 1, by omega⟩
    refine ⟨-1, by rw [dirs_place.l0, if_neg (by omega)], Or.inl ⟨rfl, by rw [sumpref09_Find.l0, if_neg (by omega)]⟩⟩
  | succ d ih =>
    intro i k h1 h2 h3
    obtain ⟨k, rfl⟩ : ∃ m, k = m + 1 := ⟨k - 1, by omega⟩
    have hi : i < l.length := by omega
    have p1 : (i : Int) < (l.length : Int) := by omega
    have p0 : 0 ≤ (i : Int) := by omega
    rw [dirs_place.l0, sumpref09_Find.l0]
    simp only [if_pos p1, if_pos p0]
    by_cases c : (rd_T49 l (i : Int)).f0.toList = s.toList
    · rw [if_pos c, if_pos c]; exact ⟨_, rfl, Or.inr ⟨by omega, by omega, rfl⟩⟩
    · rw [if_neg c, if_neg c, wi hi hb]
      exact ih (i + 1) k (by omega) (by omega) (by omega)
theorem find_same (s : ByteArray) (l : List S49) (hb : l.length ≤ 1000) (k : Nat) (hk : l.length < k) : ∃ v : Int × Bool, dirs_Find.f k l s = some v ∧ sumpref09_Find.f k l s = some v := by
  unfold dirs_Find.f dirs_place.f sumpref09_Find.f
  obtain ⟨v, hv, h⟩ := find_both s l hb l.length 0 k (by omega) (by omega) hk
  rw [show ((0 : Nat) : Int) = 0 from rfl] at hv h
  rw [hv, Option.bind_some]
  rcases h with ⟨rfl, h⟩ | ⟨h0, h1, h⟩
  · exact ⟨(0, false), by rw [if_pos (by omega)], h⟩
  · exact ⟨_, by rw [if_neg (by omega), if_pos h0, if_pos h1], h⟩
/-! ### what the document puts -/
def pe (s : ByteArray) (n : Int) : List S49 → List S49
  | [] => [⟨s, n⟩]
  | x :: t => if Op.bytesLess s.toList x.f0.toList = true then ⟨s, n⟩ :: x :: t else x :: pe s n t
theorem pe_ins (s : ByteArray) (n : Int) (l : List S49) : pe s n l = ins l ⟨s, n⟩ (dirs_Put.at l s) := by
  induction l with
  | nil => rfl
  | cons x t ih =>
    unfold pe dirs_Put.at
    rw [List.findIdx_cons]
    by_cases c : Op.bytesLess s.toList x.f0.toList = true
    · rw [if_pos c, c]; rfl
    · rw [if_neg c]
      have c' : Op.bytesLess s.toList x.f0.toList = false := by simpa using c
      rw [c', ih]; rfl
theorem pe_length (s : ByteArray) (n : Int) (l : List S49) : (pe s n l).length = l.length + 1 := by rw [pe_ins, ins_length]
theorem pe_done (s : ByteArray) (n : Int) (l : List S49) (hb : l.length ≤ 1000) : ∀ (m i k : Nat) (acc : List S49), l.length - i = m → i ≤ l.length → acc.length = i + 1 → m < k →
    sumpref09_PutEntry.l0 k s n acc true l (l.length : Int) (i : Int) = some (acc ++ l.drop i, true) := by
  intro m
  induction m with
  | zero =>
    intro i k acc h1 h2 ha h3
    obtain ⟨k, rfl⟩ : ∃ m, k = m + 1 := ⟨k - 1, by omega⟩
    rw [sumpref09_PutEntry.l0, if_neg (by omega), if_pos rfl, List.drop_eq_nil_of_le (by omega), List.append_nil]
  | succ m ih =>
    intro i k acc h1 h2 ha h3
    obtain ⟨k, rfl⟩ : ∃ m, k = m + 1 := ⟨k - 1, by omega⟩
    have hi : i < l.length := by omega
    rw [sumpref09_PutEntry.l0, if_pos (by omega), if_pos (by omega), if_pos (by omega), if_pos rfl, if_pos (by omega), rdt l i hi, wi hi hb]
    rw [ih (i + 1) k _ (by omega) (by omega) (by rw [List.length_append, List.length_cons, List.length_nil]; omega) (by omega), List.append_assoc]
    rw [List.drop_eq_getElem_cons hi]; rfl
theorem pe_loop (s : ByteArray) (n : Int) (l : List S49) (hb : l.length ≤ 1000) : ∀ (m i k : Nat) (acc : List S49), l.length - i = m → i ≤ l.length → acc.length = i → m < k →
    sumpref09_PutEntry.l0 k s n acc false l (l.length : Int) (i : Int) = some (acc ++ pe s n (l.drop i), true) := by
  intro m
  induction m with
  | zero =>
    intro i k acc h1 h2 ha h3
    obtain ⟨k, rfl⟩ : ∃ m, k = m + 1 := ⟨k - 1, by omega⟩
    rw [sumpref09_PutEntry.l0, if_neg (by omega), if_neg (by decide), if_pos (by omega), List.drop_eq_nil_of_le (by omega)]; rfl
  | succ m ih =>
    intro i k acc h1 h2 ha h3
    obtain ⟨k, rfl⟩ : ∃ m, k = m + 1 := ⟨k - 1, by omega⟩
    have hi : i < l.length := by omega
    rw [sumpref09_PutEntry.l0, if_pos (by omega), if_pos (by omega), if_pos (by omega), if_neg (by decide), rdt l i hi, wi hi hb, List.drop_eq_getElem_cons hi]
    unfold pe
    by_cases c : Op.bytesLess s.toList l[i].f0.toList = true
    · rw [if_pos c, if_pos c, if_pos (by omega), Option.bind_some, if_pos (by rw [List.length_append, List.length_cons, List.length_nil]; omega)]
      rw [pe_done s n l hb m (i + 1) k _ (by omega) (by omega) (by simp only [List.length_append, List.length_cons, List.length_nil]; omega) (by omega), List.append_assoc, List.append_assoc]; rfl
    · rw [if_neg c, if_neg c, if_pos (by omega)]
      rw [ih (i + 1) k _ (by omega) (by omega) (by rw [List.length_append, List.length_cons, List.length_nil]; omega) (by omega), List.append_assoc]; rfl
theorem put_same (s : ByteArray) (n : Int) (l : List S49) (hb : l.length ≤ 999) (k : Nat) (hk : l.length < k) : ∃ v : List S49 × Bool, dirs_Put.f l s n = some v ∧ sumpref09_PutEntry.f k l s n = some v ∧ v.1.length ≤ 1000 := by
  unfold sumpref09_PutEntry.f
  obtain ⟨v, h1, h2⟩ := find_same s l (by omega) k hk
  rcases find_ev s l (by omega) k hk with ⟨x, hx, hn, he⟩ | ⟨hn, he⟩
  · rw [he] at h1
    obtain rfl := Option.some.inj h1
    exact ⟨_, put_there l s n (by omega) x hx hn, by rw [h2, Option.bind_some, if_pos rfl], by show l.length ≤ 1000; omega⟩
  · rw [he] at h1
    obtain rfl := Option.some.inj h1
    have hp := pe_loop s n l (by omega) l.length 0 k [] (by omega) (by omega) rfl hk
    rw [show ((0 : Nat) : Int) = 0 from rfl, List.drop_zero, List.nil_append, pe_ins] at hp
    exact ⟨_, put_ev l s n (by omega) hn, by rw [h2, Option.bind_some, if_neg (by decide)]; exact hp, by rw [ins_length]; omega⟩
theorem de_loop (s : ByteArray) (l : List S49) (hb : l.length ≤ 1000) : ∀ (m i k : Nat) (acc : List S49), l.length - i = m → i ≤ l.length → acc.length ≤ i → m < k →
    sumpref09_DropEntry.l0 k l s acc l (l.length : Int) (i : Int) = some (acc ++ out s (l.drop i), decide ((acc ++ out s (l.drop i)).length < l.length)) := by
  intro m
  induction m with
  | zero =>
    intro i k acc h1 h2 ha h3
    obtain ⟨k, rfl⟩ : ∃ m, k = m + 1 := ⟨k - 1, by omega⟩
    rw [sumpref09_DropEntry.l0, if_neg (by omega), List.drop_eq_nil_of_le (by omega)]
    show some (acc, _) = some (acc ++ [], decide ((acc ++ []).length < l.length))
    rw [List.append_nil]
    simp
  | succ m ih =>
    intro i k acc h1 h2 ha h3
    obtain ⟨k, rfl⟩ : ∃ m, k = m + 1 := ⟨k - 1, by omega⟩
    have hi : i < l.length := by omega
    rw [sumpref09_DropEntry.l0, if_pos (by omega), if_pos (by omega), if_pos (by omega), rdt l i hi, wi hi hb, List.drop_eq_getElem_cons hi]
    by_cases c : l[i].f0.toList = s.toList
    · have e : out s (l[i] :: l.drop (i + 1)) = out s (l.drop (i + 1)) := by unfold out; rw [List.filter_cons_of_neg (by simpa using c)]
      rw [if_pos c, e]
      exact ih (i + 1) k acc (by omega) (by omega) (by omega) (by omega)
    · have e : acc ++ out s (l[i] :: l.drop (i + 1)) = (acc ++ [l[i]]) ++ out s (l.drop (i + 1)) := by unfold out; rw [List.filter_cons_of_pos (by simpa using c), List.append_assoc]; rfl
      rw [if_neg c, if_pos (by omega), e]
      exact ih (i + 1) k _ (by omega) (by omega) (by rw [List.length_append, List.length_cons, List.length_nil]; omega) (by omega)
theorem drop_same (s : ByteArray) (l : List S49) (hb : l.length ≤ 1000) (k : Nat) (hk : l.length < k) : ∃ v : List S49 × Bool, dirs_Drop.f l s = some v ∧ sumpref09_DropEntry.f k l s = some v ∧ v.1.length ≤ 1000 := by
  have h := de_loop s l hb l.length 0 k [] (by omega) (by omega) (Nat.le_refl _) hk
  rw [show ((0 : Nat) : Int) = 0 from rfl, List.drop_zero, List.nil_append] at h
  exact ⟨_, drop_ev l s hb, h, by have := out_length l s; show (out s l).length ≤ 1000; omega⟩
theorem re_loop (l : List S49) (hb : l.length ≤ 1000) (hs : ∀ x ∈ l, x.f0.size ≤ 100) : ∀ (m i k : Nat), l.length - i = m → i ≤ l.length → m + 200 < k → ∃ r, sumpref09_RightEntries.l0 k l l (l.length : Int) (i : Int) = some r ∧ (r = true ↔ ∀ j, i ≤ j → ∀ h : j < l.length, rightAt l j h) := by
  intro m
  induction m with
  | zero =>
    intro i k h1 h2 h3
    obtain ⟨k, rfl⟩ : ∃ m, k = m + 1 := ⟨k - 1, by omega⟩
    rw [sumpref09_RightEntries.l0, if_neg (by omega)]
    exact ⟨_, rfl, fun _ j hj h => by omega, fun _ => rfl⟩
  | succ m ih =>
    intro i k h1 h2 h3
    obtain ⟨k, rfl⟩ : ∃ m, k = m + 1 := ⟨k - 1, by omega⟩
    have hi : i < l.length := by omega
    obtain ⟨r, hr, hr2⟩ := ih (i + 1) k (by omega) (by omega) (by omega)
    have hsplit : (∀ j, i ≤ j → ∀ h : j < l.length, rightAt l j h) ↔ rightAt l i hi ∧ ∀ j, i + 1 ≤ j → ∀ h : j < l.length, rightAt l j h := by
      constructor
      · intro h; exact ⟨h i (Nat.le_refl _) hi, fun j hj hl => h j (by omega) hl⟩
      · rintro ⟨h, h'⟩ j hj hl
        rcases Nat.eq_or_lt_of_le hj with rfl | hj
        · exact h
        · exact h' j hj hl
    rw [sumpref09_RightEntries.l0, if_pos (by omega), if_pos (by omega), if_pos (by omega), rdt l i hi]
    obtain ⟨q, hq, hq2⟩ := name_ev l[i].f0 (by have := hs l[i] (List.getElem_mem hi); omega) k (by have := hs l[i] (List.getElem_mem hi); omega)
    rw [hq, Option.bind_some, hsplit]
    unfold rightAt good sumpref09_number.f
    by_cases c1 : q = 0
    · rw [if_pos c1]
      have c1' := hq2.1 c1
      by_cases c2 : l[i].f1 ≥ 1
      · rw [if_pos c2, Option.bind_some]
        by_cases c3 : l[i].f1 ≤ 1048576
        · rw [if_pos (decide_eq_true c3)]
          by_cases h0 : (i : Int) > 0
          · have hw1 : wrap64 ((i : Int) - 1) = ((i - 1 : Nat) : Int) := by rw [wrap64_in (by omega) (by omega)]; omega
            rw [if_pos h0, hw1, if_pos (by omega), if_pos (by omega), rdt l (i - 1) (by omega)]
            by_cases c : Op.bytesLess (l[i - 1]'(by omega)).f0.toList l[i].f0.toList = true
            · rw [if_pos c, wi hi hb, hr]
              refine ⟨r, rfl, ?_⟩
              rw [hr2]
              exact ⟨fun h => ⟨⟨⟨c1', c2, c3⟩, fun _ => c⟩, h⟩, fun h => h.2⟩
            · rw [if_neg c]
              exact ⟨_, rfl, ⟨(fun h => by cases h), (fun h => absurd (h.1.2 (by omega)) c)⟩⟩
          · rw [if_neg h0, wi hi hb, hr]
            refine ⟨r, rfl, ?_⟩
            rw [hr2]
            exact ⟨fun h => ⟨⟨⟨c1', c2, c3⟩, fun h' => absurd h' (by omega)⟩, h⟩, fun h => h.2⟩
        · rw [if_neg (by simpa using c3)]
          exact ⟨_, rfl, ⟨(fun h => by cases h), (fun h => absurd h.1.1.2.2 c3)⟩⟩
      · rw [if_neg c2, Option.bind_some, if_neg (by decide)]
        exact ⟨_, rfl, ⟨(fun h => by cases h), (fun h => absurd h.1.1.2.1 c2)⟩⟩
    · rw [if_neg c1]
      exact ⟨_, rfl, ⟨(fun h => by cases h), (fun h => absurd (hq2.2 h.1.1.1) c1)⟩⟩
theorem right_same (l : List S49) (hb : l.length ≤ 100) (hs : ∀ x ∈ l, x.f0.size ≤ 100) (k : Nat) (hk : 400 < k) : ∃ v, dirs_Right.f k l = some v ∧ sumpref09_RightEntries.f k l = some v := by
  obtain ⟨r, hr, hr2⟩ := right_ev2 l (by omega) k (by omega)
  obtain ⟨q, hq, hq2⟩ := re_loop l (by omega) hs l.length 0 k (by omega) (by omega) (by omega)
  rw [right_iff] at hq2
  have : q = r := by rw [Bool.eq_iff_iff, hq2, hr2]
  exact ⟨r, hr, by rw [← this]; exact hq⟩
theorem names_loop2 (l : List S49) (hb : l.length ≤ 1000) : ∀ (m i k : Nat) (acc : List ByteArray), l.length - i = m → i ≤ l.length → acc.length = i → m < k → dirs_Names.l0 k acc l (l.length : Int) (i : Int) = some (acc ++ (l.drop i).map (·.f0)) := by
  intro m
  induction m with
  | zero =>
    intro i k acc h1 h2 ha h3
    obtain ⟨k, rfl⟩ : ∃ m, k = m + 1 := ⟨k - 1, by omega⟩
    rw [dirs_Names.l0, if_neg (by omega), List.drop_eq_nil_of_le (by omega)]; simp
  | succ m ih =>
    intro i k acc h1 h2 ha h3
    obtain ⟨k, rfl⟩ : ∃ m, k = m + 1 := ⟨k - 1, by omega⟩
    have hi : i < l.length := by omega
    rw [dirs_Names.l0, if_pos (by omega), if_pos (by omega), if_pos (by omega), if_pos (by omega), wi hi hb, rdt l i hi]
    rw [ih (i + 1) k _ (by omega) (by omega) (by rw [List.length_append, List.length_cons, List.length_nil]; omega) (by omega), List.append_assoc, List.drop_eq_getElem_cons hi]; rfl
def cnt (n : Int) (l : List S49) : Nat := l.countP (fun x => decide (x.f1 = n))
theorem cnt_cons (n : Int) (x : S49) (t : List S49) : cnt n (x :: t) = cnt n t + if x.f1 = n then 1 else 0 := by
  unfold cnt; rw [List.countP_cons]; by_cases h : x.f1 = n <;> simp [h]
theorem cnt_snoc (n : Int) (x : S49) (t : List S49) : cnt n (t ++ [x]) = cnt n t + if x.f1 = n then 1 else 0 := by
  have h0 : cnt n [x] = if x.f1 = n then 1 else 0 := by rw [cnt_cons]; unfold cnt; simp
  rw [← h0]; unfold cnt; rw [List.countP_append]
theorem count_loop (n : Int) (l : List S49) (hb : l.length ≤ 1000) : ∀ (m i k : Nat) (c : Nat), l.length - i = m → i ≤ l.length → c ≤ i → m < k → dirs_Count.l0 k n (c : Int) l (l.length : Int) (i : Int) = some ((c + cnt n (l.drop i) : Nat) : Int) := by
  intro m
  induction m with
  | zero =>
    intro i k c h1 h2 ha h3
    obtain ⟨k, rfl⟩ : ∃ m, k = m + 1 := ⟨k - 1, by omega⟩
    rw [dirs_Count.l0, if_neg (by omega), List.drop_eq_nil_of_le (by omega)]; rfl
  | succ m ih =>
    intro i k c h1 h2 ha h3
    obtain ⟨k, rfl⟩ : ∃ m, k = m + 1 := ⟨k - 1, by omega⟩
    have hi : i < l.length := by omega
    have hw : wrap64 ((c : Int) + 1) = ((c + 1 : Nat) : Int) := by rw [wrap64_in (by omega) (by omega)]; rfl
    rw [dirs_Count.l0, if_pos (by omega), if_pos (by omega), if_pos (by omega), wi hi hb, rdt l i hi, hw, List.drop_eq_getElem_cons hi]
    rw [cnt_cons]
    by_cases e : l[i].f1 = n
    · rw [if_pos e, if_pos e, ih (i + 1) k _ (by omega) (by omega) (by omega) (by omega)]
      congr 2; omega
    · rw [if_neg e, if_neg e, ih (i + 1) k _ (by omega) (by omega) (by omega) (by omega)]
      rfl
theorem texts_loop (a : List ByteArray) (hb : a.length ≤ 1000) : ∀ (m i k : Nat), a.length - i = m → i ≤ a.length → m < k → sumpref01_SameTexts.l0 k a a (a.length : Int) (i : Int) = some true := by
  intro m
  induction m with
  | zero =>
    intro i k h1 h2 h3
    obtain ⟨k, rfl⟩ : ∃ m, k = m + 1 := ⟨k - 1, by omega⟩
    rw [sumpref01_SameTexts.l0, if_neg (by omega)]
  | succ m ih =>
    intro i k h1 h2 h3
    obtain ⟨k, rfl⟩ : ∃ m, k = m + 1 := ⟨k - 1, by omega⟩
    rw [sumpref01_SameTexts.l0, if_pos (by omega), if_pos (by omega), if_pos (by omega), if_pos (by omega), if_pos rfl, wrap64_in (by omega) (by omega)]
    exact ih (i + 1) k (by omega) (by omega) (by omega)
theorem does_loop (l : List S49) (n : Int) (hb : l.length ≤ 30) (hs : ∀ x ∈ l, x.f0.size ≤ 100) (a : Int) (b : Bool) (p : List S49) (c : Bool) (d : List S49) (e : Bool) (hp : p.length ≤ 1000) (hd : d.length ≤ 1000) : ∀ (m i k : Nat) (acc : List ByteArray) (u : Nat), l.length - i = m → i ≤ l.length → acc = (l.take i).map (·.f0) → u = cnt n (l.take i) → m + 2000 < k →
    sumplaw15_DirsDoes.l0 k l n a b a b p c p c d e d e acc (u : Int) l (l.length : Int) (i : Int) = some true := by
  intro m
  induction m with
  | zero =>
    intro i k acc u h1 h2 ha hu h3
    obtain ⟨k, rfl⟩ : ∃ m, k = m + 1 := ⟨k - 1, by omega⟩
    obtain rfl : i = l.length := by omega
    rw [List.take_length] at ha hu
    obtain ⟨v, hv1, hv2⟩ := right_same l (by omega) hs k (by omega)
    have hn := names_loop2 l (by omega) l.length 0 k [] (by omega) (by omega) rfl (by omega)
    have hc := count_loop n l (by omega) l.length 0 k 0 (by omega) (by omega) (by omega) (by omega)
    have ht := texts_loop (l.map (·.f0)) (by simp; omega) l.length 0 k (by simp) (by omega) (by omega)
    rw [show ((0 : Nat) : Int) = 0 from rfl] at hn hc ht
    rw [List.drop_zero] at hn hc
    rw [List.nil_append] at hn
    rw [Nat.zero_add] at hc
    have b1 : ∀ x : Bool, (x == x) = true := fun x => by cases x <;> rfl
    rw [sumplaw15_DirsDoes.l0, if_neg (by omega), if_pos rfl, if_pos (b1 b), same_self p hp k (by omega), Option.bind_some, if_pos rfl, if_pos (b1 c), same_self d hd k (by omega), Option.bind_some, if_pos rfl, if_pos (b1 e), hv1, Option.bind_some, hv2, Option.bind_some, if_pos (b1 v)]
    unfold dirs_Names.f sumpref01_SameTexts.f dirs_Count.f
    rw [hn, Option.bind_some, ha, if_pos rfl, ht, Option.bind_some, if_pos rfl, hc, Option.bind_some, hu]
    rw [beq_self_eq_true]
  | succ m ih =>
    intro i k acc u h1 h2 ha hu h3
    obtain ⟨k, rfl⟩ : ∃ m, k = m + 1 := ⟨k - 1, by omega⟩
    have hi : i < l.length := by omega
    have hul : u ≤ i := by rw [hu]; unfold cnt; exact Nat.le_trans List.countP_le_length (by rw [List.length_take]; omega)
    have hal : acc.length = i := by rw [ha, List.length_map, List.length_take]; omega
    have hw : wrap64 ((u : Int) + 1) = ((u + 1 : Nat) : Int) := by rw [wrap64_in (by omega) (by omega)]; rfl
    rw [sumplaw15_DirsDoes.l0, if_pos (by omega), if_pos (by omega), if_pos (by omega), if_pos (by omega), Option.bind_some, rdt l i hi, wi hi (by omega), hw]
    have ha' : acc ++ [l[i].f0] = (l.take (i + 1)).map (·.f0) := by rw [List.take_succ_eq_append_getElem hi, List.map_append, ← ha]; rfl
    have hu' : cnt n (l.take (i + 1)) = u + if l[i].f1 = n then 1 else 0 := by
      rw [List.take_succ_eq_append_getElem hi, cnt_snoc, ← hu]
    by_cases e : l[i].f1 = n
    · rw [if_pos e]
      rw [if_pos e] at hu'
      exact ih (i + 1) k _ _ (by omega) (by omega) ha' hu'.symm (by omega)
    · rw [if_neg e]
      rw [if_neg e] at hu'
      exact ih (i + 1) k _ _ (by omega) (by omega) ha' hu'.symm (by omega)
theorem law_does0 (l : List S49) (s : ByteArray) (n : Int) (hl : l.length ≤ 9223372036854775807) : ∃ k, sumplaw15_DirsDoes.f k l s n = some true := by
  refine ⟨l.length + 4001, ?_⟩
  have hj : sumplaw15_DirsDoes.j0 (l.length + 4001) l s n true = some true := by rw [sumplaw15_DirsDoes.j0, if_pos rfl]
  obtain ⟨r, hr, hr2⟩ := few_ev l hl (l.length + 4001) (by omega)
  unfold sumplaw15_DirsDoes.f
  rw [awake_ev _ (by omega), Option.bind_some, if_pos rfl, hr, Option.bind_some]
  by_cases c : r = true
  · rw [if_pos c]
    obtain ⟨h30, hs⟩ := hr2 c
    by_cases cs : (s.size : Int) > 100
    · rw [decide_eq_true cs]; exact hj
    · rw [decide_eq_false cs, sumplaw15_DirsDoes.j0, if_neg (by decide)]
      obtain ⟨v1, e1, e2⟩ := find_same s l (by omega) (l.length + 4000) (by omega)
      obtain ⟨v2, e3, e4, l2⟩ := put_same s n l (by omega) (l.length + 4000) (by omega)
      obtain ⟨v3, e5, e6, l3⟩ := drop_same s l (by omega) (l.length + 4000) (by omega)
      rw [e1, Option.bind_some, e2, Option.bind_some, e3, Option.bind_some, e4, Option.bind_some, e5, Option.bind_some, e6, Option.bind_some]
      exact does_loop l n h30 hs v1.1 v1.2 v2.1 v2.2 v3.1 v3.2 l2 l3 l.length 0 (l.length + 4000) [] 0 (by omega) (by omega) (by rw [List.take_zero]; rfl) (by rw [List.take_zero]; rfl) (by omega)
  · rw [if_neg c]; exact hj
theorem law_does (l0 : (List S49)) (a1 : ByteArray) (a2 : Int) (g0 : (l0.length ≤ maxLen ∧ ∀ y1 ∈ l0, G49 y1)) (y0 : l0.length * 24 ≤ 140737488351232) (w1 : a1.size ≤ 140737488351232) (w2 : (Lit.int .i64 a2).wf = true) : ∃ k, sumplaw15_DirsDoes.f k l0 a1 a2 = some true :=
  law_does0 l0 a1 a2 (by have := g0.1; unfold maxLen at this; omega)
end Go.Proofs.Yteoklaofbdfjlaa.PDirs
