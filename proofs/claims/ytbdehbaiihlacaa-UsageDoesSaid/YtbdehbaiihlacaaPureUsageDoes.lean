/- UsageDoes: the pure part: the uses of directories, with all below them, are those that the statement counts. -/
import Derived.Test.YtbdehbaiihlacaaPUsageDoesx3d
import Derived.Test.YtbdehbaiihlacaaQ
namespace Go.Proofs.Ytbdehbaiihlacaa.PUsageDoes
open Go.RowKit Go.Proofs.YtbdehbaiihlacaaW.PrintWords Go.Proofs.YtbdehbaiihlacaaW.PrintLast Go.Proofs.YtbdehbaiihlacaaW.PrintMore
set_option linter.unusedVariables false
/-- Whether a path is below a directory. -/
def bel (p d : List UInt8) : Bool := if d = [47] then (if p = [47] then false else decide (p.take 1 = [47])) else decide (p.take (d.length + 1) = d ++ [47])
theorem pre_char (P D : List UInt8) (h : D.length < P.length) : (P.take (D.length + 1) = D ++ [47]) ↔ (P.take D.length = D ∧ P[D.length] = 47) := by
  rw [List.take_succ_eq_append_getElem h]
  constructor
  · intro e
    have := List.append_inj' e rfl
    exact ⟨this.1, by simpa using this.2⟩
  · rintro ⟨e1, e2⟩; rw [e1, e2]
theorem pre_short (P D : List UInt8) (h : P.length ≤ D.length) : ¬ (P.take (D.length + 1) = D ++ [47]) := by
  intro e
  have := congrArg List.length e
  simp at this; omega
theorem hasPrefix_eq (a b : ByteArray) : strings_HasPrefix.f a b = some (decide (a.toList.take b.toList.length = b.toList)) := by
  unfold strings_HasPrefix.f stringslite_HasPrefix.f
  have ha := Q.len_toList a
  have hb := Q.len_toList b
  by_cases c : (a.size : Int) ≥ (b.size : Int)
  · rw [if_pos c, if_pos (by omega), if_pos (by omega), Option.bind_some, Int.toNat_natCast, Q.take_toList, hb]
    congr 1
    rw [Bool.eq_iff_iff, beq_iff_eq, decide_eq_true_iff]
  · rw [if_neg c, Option.bind_some]
    congr 1
    rw [eq_comm, decide_eq_false_iff_not]
    intro e
    have := congrArg List.length e
    simp at this; omega
theorem toList_app (a b : ByteArray) : (a ++ b).toList = a.toList ++ b.toList := by
  rw [ByteArray.toList_eq, ByteArray.toList_eq, ByteArray.toList_eq]; simp
theorem slash : (⟨#[47]⟩ : ByteArray).toList = [47] := by decide +kernel
theorem usage_below (p d : ByteArray) (hd : d.size ≤ 1000000) : usage_Below.f p d = some (bel p.toList d.toList) := by
  unfold usage_Below.f bel
  by_cases c : d.toList = [47]
  · rw [if_pos c, if_pos c, c]
    by_cases c2 : p.toList = [47]
    · rw [if_pos c2, if_pos c2]
    · rw [if_neg c2, if_neg c2, hasPrefix_eq, Option.bind_some, c]; rfl
  · rw [if_neg c, if_neg c, if_pos (by omega), hasPrefix_eq, Option.bind_some, toList_app, slash]
    simp
theorem law_below (p d : ByteArray) : sumplaw42_below.f p d = some (bel p.toList d.toList) := by
  unfold sumplaw42_below.f bel
  have hp := Q.len_toList p
  have hd := Q.len_toList d
  by_cases c : d.toList = [47]
  · rw [if_pos c, if_pos c]
    by_cases c2 : p.toList = [47]
    · rw [if_pos c2, if_pos c2]
    · rw [if_neg c2, if_neg c2]
      by_cases c3 : (p.size : Int) > 0
      · have h0 : 0 < p.toList.length := by omega
        rw [if_pos c3, if_pos (by omega), if_pos (by omega), if_pos (L.extract00 _), if_pos (by omega)]
        congr 1
        rw [Bool.eq_iff_iff, beq_iff_eq, decide_eq_true_iff]
        have e := Q.bt_toList p 0 (by omega)
        have e2 := Q.byte_eq (p.toList[0]) 47 (by omega)
        have e3 := pre_char p.toList [] h0
        rw [show ((0 : Nat) : Int) = 0 from rfl] at e
        rw [e]
        simp only [List.length_nil, List.nil_append, List.take_zero, true_and, Nat.zero_add] at e3
        rw [e3]; exact e2
      · rw [if_neg c3]
        congr 1
        rw [eq_comm, decide_eq_false_iff_not]
        have : p.toList = [] := List.eq_nil_of_length_eq_zero (by omega)
        rw [this]; simp
  · rw [if_neg c, if_neg c]
    by_cases c3 : (p.size : Int) > (d.size : Int)
    · have h0 : d.toList.length < p.toList.length := by omega
      rw [if_pos c3, if_pos (by omega), if_pos (by omega), Int.toNat_natCast, Q.take_toList, ← hd]
      have e3 := pre_char p.toList d.toList h0
      by_cases c4 : p.toList.take d.toList.length = d.toList
      · rw [if_pos c4, if_pos (by omega)]
        congr 1
        rw [Bool.eq_iff_iff, beq_iff_eq, decide_eq_true_iff, e3]
        have e := Q.bt_toList p d.toList.length (by omega)
        rw [e]
        have e2 := Q.byte_eq (p.toList[d.toList.length]) 47 (by omega)
        exact ⟨fun h => ⟨c4, e2.1 h⟩, fun h => e2.2 h.2⟩
      · rw [if_neg c4]
        congr 1
        rw [eq_comm, decide_eq_false_iff_not, e3]
        exact fun h => c4 h.1
    · rw [if_neg c3]
      congr 1
      rw [eq_comm, decide_eq_false_iff_not]
      exact pre_short _ _ (by omega)
/-- What counts of a file. -/
def sz (x : S29) : Int := if x.f3 < 0 then 0 else if x.f3 > 1099511627776 then 0 else x.f3
/-- One more item, for a directory's use. -/
def ust (d : List UInt8) (a : Int × Int × Int) (x : S29) : Int × Int × Int :=
  if bel x.f0.toList d = true then (if x.f2 = 1 then (wrap64 (a.1 + 1), a.2.1, wrap64 (a.2.2 + sz x)) else if x.f2 = 2 then (a.1, wrap64 (a.2.1 + 1), a.2.2) else a) else a
def use (l : List S29) (d : S29) : S31 := let a := l.foldl (ust d.f0.toList) (0, 0, 0); ⟨d.f0, a.1, a.2.1, a.2.2⟩
def I (x : Int) : Prop := -9223372036854775808 ≤ x ∧ x < 9223372036854775808
theorem wrap_I (x : Int) : I (wrap64 x) := Q.wrap64_rng x
theorem rd_at (l : List S29) (i : Nat) (h : i < l.length) : rd_T29 l (i : Int) = l[i] := by
  unfold rd_T29; rw [Int.toNat_natCast, List.getD_eq_getElem?_getD, List.getElem?_eq_getElem h]; rfl
theorem rd_at31 (l : List S31) (i : Nat) (h : i < l.length) : rd_T31 l (i : Int) = l[i] := by
  unfold rd_T31; rw [Int.toNat_natCast, List.getD_eq_getElem?_getD, List.getElem?_eq_getElem h]; rfl
theorem succ_nat (i : Nat) (h : i ≤ 1000000) : wrap64 ((i : Int) + 1) = ((i + 1 : Nat) : Int) := by rw [Q.wrap64_in (by omega) (by omega)]; omega
theorem size_eq (x : S29) : usage_size.f x.f0 x.f1 x.f2 x.f3 x.f4 = some (sz x) := by
  unfold usage_size.f sz
  split
  · rfl
  · split <;> rfl
theorem of_inner (l x3 : List S29) (y3 : List S31) (len : Int) (i : Int) (d : S29) (hl : l.length ≤ 1000000) (hd : d.f0.size ≤ 1000000) (R : List S31) (n : Nat) : ∀ (j : Nat) (a : Int × Int × Int), j ≤ l.length → l.length - j = n →
    Ev (fun k => usage_Of.l0 k l (y3 ++ [(⟨d.f0, ((l.drop j).foldl (ust d.f0.toList) a).1, ((l.drop j).foldl (ust d.f0.toList) a).2.1, ((l.drop j).foldl (ust d.f0.toList) a).2.2⟩ : S31)]) x3 len (wrap64 (i + 1))) R → y3.length < 3518437208883 →
    Ev (fun k => usage_Of.l1 k l y3 x3 len i l (l.length : Int) (j : Int) d.f0 d.f1 d.f2 d.f3 d.f4 d.f0 a.1 a.2.1 a.2.2) R := by
  induction n with
  | zero =>
    intro j a h1 hn h hy
    obtain rfl : j = l.length := by omega
    rw [List.drop_length] at h
    exact Ev.step (fun k => by rw [usage_Of.l1, if_neg (by omega), if_pos hy]; rfl) h
  | succ n ih =>
    intro j a h1 hn h hy
    have hj : j < l.length := by omega
    rw [List.drop_eq_getElem_cons hj, List.foldl_cons] at h
    have h2 := ih (j + 1) (ust d.f0.toList a l[j]) (by omega) (by omega) h hy
    refine Ev.step (fun k => ?_) h2
    rw [usage_Of.l1, if_pos (by omega), if_pos (by omega), if_pos (by omega), rd_at l j hj, usage_below _ _ hd, Option.bind_some, succ_nat j (by omega)]
    unfold ust
    by_cases c : bel l[j].f0.toList d.f0.toList = true
    · rw [if_pos c, if_pos c]
      by_cases c1 : l[j].f2 = 1
      · rw [if_pos c1, if_pos c1, size_eq, Option.bind_some]
      · rw [if_neg c1, if_neg c1]
        by_cases c2 : l[j].f2 = 2
        · rw [if_pos c2, if_pos c2]
        · rw [if_neg c2, if_neg c2]
    · rw [if_neg c, if_neg c]
theorem of_outer (l : List S29) (hl : l.length ≤ 1000000) (hp : ∀ x ∈ l, x.f0.size ≤ 1000000) (n : Nat) : ∀ (i : Nat) (y : List S31), i ≤ l.length → l.length - i = n → y.length ≤ i →
    Ev (fun k => usage_Of.l0 k l y l (l.length : Int) (i : Int)) (y ++ ((l.drop i).filter (fun x => x.f2 == 2)).map (use l)) := by
  induction n with
  | zero =>
    intro i y h1 hn hy
    obtain rfl : i = l.length := by omega
    rw [List.drop_length]
    exact Ev.step (fun k => by rw [usage_Of.l0, if_neg (by omega)]) (by simpa using Ev.now _)
  | succ n ih =>
    intro i y h1 hn hy
    have hi : i < l.length := by omega
    rw [List.drop_eq_getElem_cons hi]
    by_cases c : l[i].f2 = 2
    · rw [List.filter_cons_of_pos (by simpa using c), List.map_cons]
      have h2 := ih (i + 1) (y ++ [use l l[i]]) (by omega) (by omega) (by simp; omega)
      rw [List.append_assoc, List.singleton_append] at h2
      rw [← succ_nat i (by omega)] at h2
      have h3 := of_inner l l y (l.length : Int) (i : Int) l[i] hl (hp _ (List.getElem_mem hi)) _ l.length 0 (0, 0, 0) (by omega) (by omega) h2 (by omega)
      exact Ev.step (fun k => by rw [usage_Of.l0, if_pos (by omega), if_pos (by omega), if_pos (by omega), rd_at l i hi, if_pos c]; rfl) h3
    · rw [List.filter_cons_of_neg (by simpa using c)]
      have h2 := ih (i + 1) y (by omega) (by omega) (by omega)
      rw [← succ_nat i (by omega)] at h2
      exact Ev.step (fun k => by rw [usage_Of.l0, if_pos (by omega), if_pos (by omega), if_pos (by omega), rd_at l i hi, if_neg c]) h2
def uses (l : List S29) : List S31 := (l.filter (fun x => x.f2 == 2)).map (use l)
theorem of_ev (l : List S29) (hl : l.length ≤ 1000000) (hp : ∀ x ∈ l, x.f0.size ≤ 1000000) : Ev (fun k => usage_Of.f k l) (uses l) := by
  have h := of_outer l hl hp l.length 0 [] (by omega) (by omega) (by simp)
  simpa [usage_Of.f, uses] using h
theorem ust_I (d : List UInt8) (a : Int × Int × Int) (x : S29) (h : I a.2.2) : I (ust d a x).2.2 := by
  unfold ust
  split
  · split
    · exact wrap_I _
    · split <;> exact h
  · exact h
theorem law_inner (l : List S29) (p q : ByteArray) (us got : List S31) (kk i : Nat) (d : S29) (hl : l.length ≤ 1000000) (hk : kk < got.length) (hg : got.length ≤ 1000000)
    (h : Ev (fun k => sumplaw42_UsageDoes.l0 k l p q us got (((kk + 1 : Nat)) : Int) l (l.length : Int) (((i + 1 : Nat)) : Int)) true) (hi : i ≤ 1000000) (n : Nat) : ∀ (j : Nat) (a : Int × Int × Int), j ≤ l.length → l.length - j = n → I a.2.2 →
    got[kk] = (⟨d.f0, ((l.drop j).foldl (ust d.f0.toList) a).1, ((l.drop j).foldl (ust d.f0.toList) a).2.1, ((l.drop j).foldl (ust d.f0.toList) a).2.2⟩ : S31) →
    Ev (fun k => sumplaw42_UsageDoes.l1 k l p q us got (kk : Int) l (l.length : Int) (i : Int) l (l.length : Int) (j : Int) d.f0 d.f1 d.f2 d.f3 d.f4 d.f0 a.1 a.2.1 a.2.2) true := by
  induction n with
  | zero =>
    intro j a h1 hn ha hgk
    obtain rfl : j = l.length := by omega
    rw [List.drop_length, List.foldl_nil] at hgk
    refine Ev.step (fun k => ?_) h
    rw [sumplaw42_UsageDoes.l1, if_neg (by omega), if_neg (by omega), if_pos (by omega), if_pos (by omega), rd_at31 got kk hk, hgk, if_pos rfl, if_pos rfl, if_pos rfl, if_pos rfl, succ_nat kk (by omega), succ_nat i hi]
  | succ n ih =>
    intro j a h1 hn ha hgk
    have hj : j < l.length := by omega
    rw [List.drop_eq_getElem_cons hj, List.foldl_cons] at hgk
    have h2 := ih (j + 1) (ust d.f0.toList a l[j]) (by omega) (by omega) (ust_I _ _ _ ha) hgk
    refine Ev.step (f := fun k => if bel l[j].f0.toList d.f0.toList = true then sumplaw42_UsageDoes.j3 k l p q us got (kk : Int) l (l.length : Int) (i : Int) l (l.length : Int) (j : Int) (l[j].f2 == 1) d.f0 d.f1 d.f2 d.f3 d.f4 d.f0 a.1 a.2.1 a.2.2 l[j].f0 l[j].f1 l[j].f2 l[j].f3 l[j].f4
      else sumplaw42_UsageDoes.j3 k l p q us got (kk : Int) l (l.length : Int) (i : Int) l (l.length : Int) (j : Int) false d.f0 d.f1 d.f2 d.f3 d.f4 d.f0 a.1 a.2.1 a.2.2 l[j].f0 l[j].f1 l[j].f2 l[j].f3 l[j].f4) (fun k => ?_) ?_
    · rw [sumplaw42_UsageDoes.l1, if_pos (by omega), if_pos (by omega), if_pos (by omega), rd_at l j hj, law_below, Option.bind_some]
    · unfold ust at h2
      by_cases c : bel l[j].f0.toList d.f0.toList = true
      · simp only [if_pos c] at h2 ⊢
        by_cases c1 : l[j].f2 = 1
        · rw [if_pos c1] at h2
          simp only at h2
          have h2' : ∀ z : Int, z = wrap64 (a.2.2 + sz l[j]) → ∀ b, b = decide (l[j].f3 ≤ 1099511627776) ∨ b = false → (b = true → z = wrap64 (a.2.2 + l[j].f3)) → (b = false → z = a.2.2) → Ev (fun k => sumplaw42_UsageDoes.j4 k l p q us got (kk : Int) l (l.length : Int) (i : Int) l (l.length : Int) (j : Int) b d.f0 d.f1 d.f2 d.f3 d.f4 d.f0 (wrap64 (a.1 + 1)) a.2.1 a.2.2 l[j].f0 l[j].f1 l[j].f2 l[j].f3 l[j].f4) true := by
            intro z hz b _ ht hf
            rw [← hz] at h2
            refine Ev.step (fun k => ?_) h2
            rw [sumplaw42_UsageDoes.j4, law_below, succ_nat j (by omega)]
            cases b
            · rw [if_neg (by decide), Option.bind_some, if_pos c, if_neg (by omega), hf rfl]
            · rw [if_pos rfl, Option.bind_some, if_pos c, if_neg (by omega), ht rfl]
          have hs : sz l[j] = if l[j].f3 < 0 then 0 else if l[j].f3 > 1099511627776 then 0 else l[j].f3 := rfl
          have h0 : wrap64 (a.2.2 + 0) = a.2.2 := by rw [Int.add_zero]; exact Q.wrap64_in ha.1 ha.2
          by_cases c3 : l[j].f3 > 0
          · refine Ev.step (fun k => by rw [sumplaw42_UsageDoes.j3, beq_iff_eq.mpr c1, if_pos rfl, if_pos c3]) (h2' _ rfl _ (Or.inl rfl) ?_ ?_)
            · intro e
              have := of_decide_eq_true e
              rw [hs, if_neg (by omega), if_neg (by omega)]
            · intro e
              have := of_decide_eq_false e
              rw [hs, if_neg (by omega), if_pos (by omega), h0]
          · refine Ev.step (fun k => by rw [sumplaw42_UsageDoes.j3, beq_iff_eq.mpr c1, if_pos rfl, if_neg c3]) (h2' _ rfl _ (Or.inr rfl) (fun e => by cases e) ?_)
            intro _
            rw [hs]
            split
            · exact h0
            · rw [if_neg (by omega), show l[j].f3 = 0 by omega]; exact h0
        · rw [if_neg c1] at h2
          have eb : (l[j].f2 == 1) = false := beq_eq_false_iff_ne.mpr c1
          simp only [eb]
          refine Ev.step (fun k => ?_) h2
          rw [sumplaw42_UsageDoes.j3, if_neg (by decide), law_below, Option.bind_some, if_pos c, succ_nat j (by omega)]
          by_cases c2 : l[j].f2 = 2
          · rw [if_pos c2, if_pos c2]
          · rw [if_neg c2, if_neg c2]
      · simp only [if_neg c] at h2 ⊢
        refine Ev.step (fun k => ?_) h2
        rw [sumplaw42_UsageDoes.j3, if_neg (by decide), law_below, Option.bind_some, if_neg c, succ_nat j (by omega)]
theorem law_outer (l : List S29) (p q : ByteArray) (us : List S31) (hl : l.length ≤ 1000000)
    (hend : Ev (fun k => sumplaw42_UsageDoes.l2 k p q us (uses l) ((uses l).length : Int) false us (us.length : Int) 0 (⟨#[]⟩ : ByteArray) 0 0 0) true) (n : Nat) : ∀ (i kk : Nat), i ≤ l.length → l.length - i = n → kk ≤ (uses l).length →
    (uses l).drop kk = ((l.drop i).filter (fun x => x.f2 == 2)).map (use l) →
    Ev (fun k => sumplaw42_UsageDoes.l0 k l p q us (uses l) (kk : Int) l (l.length : Int) (i : Int)) true := by
  have hg : (uses l).length ≤ l.length := by unfold uses; rw [List.length_map]; exact List.length_filter_le _ _
  induction n with
  | zero =>
    intro i kk h1 hn hk hd
    obtain rfl : i = l.length := by omega
    rw [List.drop_length] at hd
    have : (uses l).length ≤ kk := by simpa using hd
    obtain rfl : kk = (uses l).length := by omega
    exact Ev.step (fun k => by rw [sumplaw42_UsageDoes.l0, if_neg (by omega)]) hend
  | succ n ih =>
    intro i kk h1 hn hk hd
    have hi : i < l.length := by omega
    rw [List.drop_eq_getElem_cons hi] at hd
    by_cases c : l[i].f2 = 2
    · rw [List.filter_cons_of_pos (by simpa using c), List.map_cons] at hd
      have hlt : kk < (uses l).length := by
        rcases Nat.lt_or_ge kk (uses l).length with h | h
        · exact h
        · rw [List.drop_eq_nil_of_le h] at hd; cases hd
      rw [List.drop_eq_getElem_cons hlt] at hd
      obtain ⟨e1, e2⟩ := List.cons.inj hd
      have h2 := ih (i + 1) (kk + 1) (by omega) (by omega) (by omega) e2
      have h3 := law_inner l p q us (uses l) kk i l[i] hl hlt (by omega) h2 (by omega) l.length 0 (0, 0, 0) (by omega) (by omega) (by unfold I; simp) e1
      exact Ev.step (fun k => by rw [sumplaw42_UsageDoes.l0, if_pos (by omega), if_pos (by omega), if_pos (by omega), rd_at l i hi, if_pos c]; rfl) h3
    · rw [List.filter_cons_of_neg (by simpa using c)] at hd
      have h2 := ih (i + 1) kk (by omega) (by omega) hk hd
      rw [← succ_nat i (by omega)] at h2
      exact Ev.step (fun k => by rw [sumplaw42_UsageDoes.l0, if_pos (by omega), if_pos (by omega), if_pos (by omega), rd_at l i hi, if_neg c]) h2
/-- The first use of a path. -/
def fst (p : ByteArray) : List S31 → ByteArray × Int × Int × Int × Bool
  | [] => ((⟨#[]⟩ : ByteArray), 0, 0, 0, false)
  | u :: t => if u.f0.toList = p.toList then (u.f0, u.f1, u.f2, u.f3, true) else fst p t
theorem at_ev (us : List S31) (p : ByteArray) (hl : us.length ≤ 1000000) (n : Nat) : ∀ (j : Nat), j ≤ us.length → us.length - j = n → Ev (fun k => usage_At.l0 k p us (us.length : Int) (j : Int)) (fst p (us.drop j)) := by
  induction n with
  | zero =>
    intro j h1 hn
    obtain rfl : j = us.length := by omega
    rw [List.drop_length]
    exact Ev.step (fun k => by rw [usage_At.l0, if_neg (by omega)]; rfl) (Ev.now _)
  | succ n ih =>
    intro j h1 hn
    have hj : j < us.length := by omega
    have h2 := ih (j + 1) (by omega) (by omega)
    rw [List.drop_eq_getElem_cons hj, fst]
    by_cases c : us[j].f0.toList = p.toList
    · rw [if_pos c]
      exact Ev.step (fun k => by rw [usage_At.l0, if_pos (by omega), if_pos (by omega), if_pos (by omega), rd_at31 us j hj, if_pos c]) (Ev.now _)
    · rw [if_neg c]
      refine Ev.step (fun k => ?_) h2
      rw [usage_At.l0, if_pos (by omega), if_pos (by omega), if_pos (by omega), rd_at31 us j hj, if_neg c, succ_nat j (by omega)]
theorem law_end (us got : List S31) (p q : ByteArray) (hl : us.length ≤ 1000000) (hq : q.size ≤ 1000000) (r : ByteArray × Int × Int × Int × Bool) (hr : fst p us = r) :
    Ev (fun k => (usage_At.f k us p).bind fun bt146 => (if (got.length : Int) = (got.length : Int) then ((usage_Below.f p q).bind fun t152 => ((sumplaw42_below.f p q).bind fun t153 => (if (t152 == t153) = true then (if bt146.1.toList = r.1.toList then (if bt146.2.1 = r.2.1 then (if bt146.2.2.1 = r.2.2.1 then (if bt146.2.2.2.1 = r.2.2.2.1 then (some (bt146.2.2.2.2 == r.2.2.2.2)) else (some false)) else (some false)) else (some false)) else (some false)) else (some false)))) else (some false))) true := by
  have h := at_ev us p hl us.length 0 (by omega) (by omega)
  rw [List.drop_zero, hr] at h
  refine Ev.bind (g := fun k => usage_At.f k us p) h ?_
  rw [usage_below p q hq, law_below]
  simp only [Option.bind_some, if_true, beq_self_eq_true]
  exact Ev.now _
theorem law_found (us got : List S31) (p q : ByteArray) (hl : us.length ≤ 1000000) (hq : q.size ≤ 1000000) (y0 : ByteArray) (y1 y2 y3 : Int) (hr : fst p us = (y0, y1, y2, y3, true)) (n : Nat) : ∀ (j : Nat), j ≤ us.length → us.length - j = n →
    Ev (fun k => sumplaw42_UsageDoes.l2 k p q us got (got.length : Int) true us (us.length : Int) (j : Int) y0 y1 y2 y3) true := by
  induction n with
  | zero =>
    intro j h1 hn
    obtain rfl : j = us.length := by omega
    exact Ev.step (fun k => by rw [sumplaw42_UsageDoes.l2, if_neg (by omega)]) (law_end us got p q hl hq _ hr)
  | succ n ih =>
    intro j h1 hn
    refine Ev.step (fun k => ?_) (ih (j + 1) (by omega) (by omega))
    rw [sumplaw42_UsageDoes.l2, if_pos (by omega), if_pos (by omega), if_pos (by omega), if_pos rfl, succ_nat j (by omega)]
theorem law_find (us got : List S31) (p q : ByteArray) (hl : us.length ≤ 1000000) (hq : q.size ≤ 1000000) (n : Nat) : ∀ (j : Nat), j ≤ us.length → us.length - j = n → fst p us = fst p (us.drop j) →
    Ev (fun k => sumplaw42_UsageDoes.l2 k p q us got (got.length : Int) false us (us.length : Int) (j : Int) (⟨#[]⟩ : ByteArray) 0 0 0) true := by
  induction n with
  | zero =>
    intro j h1 hn hf
    obtain rfl : j = us.length := by omega
    rw [List.drop_length] at hf
    exact Ev.step (fun k => by rw [sumplaw42_UsageDoes.l2, if_neg (by omega)]) (law_end us got p q hl hq ((⟨#[]⟩ : ByteArray), 0, 0, 0, false) hf)
  | succ n ih =>
    intro j h1 hn hf
    have hj : j < us.length := by omega
    rw [List.drop_eq_getElem_cons hj, fst] at hf
    by_cases c : us[j].f0.toList = p.toList
    · rw [if_pos c] at hf
      refine Ev.step (fun k => ?_) (law_found us got p q hl hq _ _ _ _ hf n (j + 1) (by omega) (by omega))
      rw [sumplaw42_UsageDoes.l2, if_pos (by omega), if_pos (by omega), if_pos (by omega), if_neg (by decide), rd_at31 us j hj, if_pos c, succ_nat j (by omega)]
    · rw [if_neg c] at hf
      refine Ev.step (fun k => ?_) (ih (j + 1) (by omega) (by omega) hf)
      rw [sumplaw42_UsageDoes.l2, if_pos (by omega), if_pos (by omega), if_pos (by omega), if_neg (by decide), rd_at31 us j hj, if_neg c, succ_nat j (by omega)]
theorem few_ev (l : List S29) (hl : l.length ≤ 9223372036854775800) (n : Nat) : ∀ (j : Nat), j ≤ l.length → l.length - j = n →
    ∃ b, Ev (fun k => sumplaw23_Few.l0 k l l (l.length : Int) (j : Int)) b ∧ (b = true → l.length ≤ 30 ∧ ∀ x ∈ l.drop j, x.f0.size ≤ 200) := by
  induction n with
  | zero =>
    intro j h1 hn
    obtain rfl : j = l.length := by omega
    refine ⟨_, Ev.step (fun k => by rw [sumplaw23_Few.l0, if_neg (by omega)]) (Ev.now _), fun h => ⟨by have := of_decide_eq_true h; omega, by simp⟩⟩
  | succ n ih =>
    intro j h1 hn
    have hj : j < l.length := by omega
    by_cases c : (l[j].f4.length : Int) > 300
    · exact ⟨false, Ev.step (fun k => by rw [sumplaw23_Few.l0, if_pos (by omega), if_pos (by omega), if_pos (by omega), rd_at l j hj, if_pos c]) (Ev.now _), fun h => by cases h⟩
    · by_cases c2 : (l[j].f0.size : Int) > 200
      · exact ⟨false, Ev.step (fun k => by rw [sumplaw23_Few.l0, if_pos (by omega), if_pos (by omega), if_pos (by omega), rd_at l j hj, if_neg c, if_pos c2]) (Ev.now _), fun h => by cases h⟩
      · obtain ⟨b, hb, hbt⟩ := ih (j + 1) (by omega) (by omega)
        refine ⟨b, Ev.step (fun k => ?_) hb, fun h => ⟨(hbt h).1, fun x hx => ?_⟩⟩
        · rw [sumplaw23_Few.l0, if_pos (by omega), if_pos (by omega), if_pos (by omega), rd_at l j hj, if_neg c, if_neg c2, Q.wrap64_in (by omega) (by omega)]
          rw [show ((j + 1 : Nat) : Int) = (j : Int) + 1 by omega]
        · rw [List.drop_eq_getElem_cons hj] at hx
          rcases List.mem_cons.1 hx with rfl | hx
          · omega
          · exact (hbt h).2 x hx
theorem awake_true : sumplaw42_awake.f 10 = some true := by decide +kernel
def G29 (x : S29) : Prop := x.f0.size ≤ maxLen ∧ (Lit.int .i64 x.f1).wf = true ∧ (Lit.int .i64 x.f2).wf = true ∧ (Lit.int .i64 x.f3).wf = true ∧ (x.f4.length ≤ maxLen ∧ ∀ y3 ∈ x.f4, (Lit.int .u8 y3).wf = true)
def G31 (x : S31) : Prop := x.f0.size ≤ maxLen ∧ (Lit.int .i64 x.f1).wf = true ∧ (Lit.int .i64 x.f2).wf = true ∧ (Lit.int .i64 x.f3).wf = true
instance : Inhabited S29 := ⟨z29⟩
instance : Inhabited S31 := ⟨z31⟩
theorem law (l : (List S29)) (p : ByteArray) (q : ByteArray) (us : (List S31)) (g0 : (l.length ≤ maxLen ∧ ∀ y1 ∈ l, G29 y1)) (y0 : l.length * 64 ≤ 140737488351232) (w1 : p.size ≤ 140737488351232) (w2 : q.size ≤ 140737488351232) (g3 : (us.length ≤ maxLen ∧ ∀ y2 ∈ us, G31 y2)) (y3 : us.length * 40 ≤ 140737488351232) : ∃ k, sumplaw42_UsageDoes.f k l p q us = some true := by
  have hl : l.length ≤ 9223372036854775800 := by omega
  refine Ev.rounds (g := fun k => sumplaw42_UsageDoes.f k l p q us) ?_
  unfold sumplaw42_UsageDoes.f
  have haw : Ev (fun k => sumplaw42_awake.f k) true := Ev.of (fun k => sumplaw42_awake.mono k) awake_true
  refine Ev.bind (g := fun k => sumplaw42_awake.f k) haw ?_
  simp only [if_true]
  have hj : Ev (fun k => sumplaw42_UsageDoes.j0 k l p q us true) true := Ev.step (fun k => by rw [sumplaw42_UsageDoes.j0, if_pos rfl]) (Ev.now true)
  obtain ⟨b, hb, hbt⟩ := few_ev l hl l.length 0 (by omega) (by omega)
  refine Ev.bind (g := fun k => sumplaw23_Few.f k l) hb ?_
  cases b with
  | false => simpa using hj
  | true =>
    obtain ⟨h30, hs⟩ := hbt rfl
    rw [List.drop_zero] at hs
    simp only [if_true]
    by_cases c1 : (p.size : Int) > 200
    · simpa only [if_pos c1] using hj
    by_cases c2 : (q.size : Int) > 200
    · simpa only [if_neg c1, if_pos c2] using hj
    by_cases c3 : (us.length : Int) > 30
    · simpa only [if_neg c1, if_neg c2, decide_eq_true c3] using hj
    simp only [if_neg c1, if_neg c2, decide_eq_false c3]
    refine Ev.step (f := fun k => (usage_Of.f k l).bind fun t130 => (sumplaw42_UsageDoes.l0 k l p q us t130 0 l (l.length : Int) 0)) (fun k => by rw [sumplaw42_UsageDoes.j0, if_neg (by decide)]) ?_
    refine Ev.bind (g := fun k => usage_Of.f k l) (of_ev l (by omega) (fun x hx => by have := hs x hx; omega)) ?_
    exact law_outer l p q us (by omega) (law_find us (uses l) p q (by omega) (by omega) us.length 0 (by omega) (by omega) (by rw [List.drop_zero])) l.length 0 0 (by omega) (by omega) (by omega) (by rw [List.drop_zero, List.drop_zero]; rfl)
end Go.Proofs.Ytbdehbaiihlacaa.PUsageDoes
