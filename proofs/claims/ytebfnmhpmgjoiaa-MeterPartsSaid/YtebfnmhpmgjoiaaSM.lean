/- Merging two sorted rows in place (symMerge), rotating, insertion: the plain law. No program in sight. -/
namespace Go.Proofs.Ytebfnmhpmgjoiaa.SM
set_option linter.unusedVariables false
set_option linter.unusedSimpArgs false
variable {α : Type}
/-- Not less: an order in which any two may be compared. -/
structure SW (lt : α → α → Bool) : Prop where
  asymm : ∀ x y, lt x y = true → lt y x = false
  ntrans : ∀ x y z, lt y x = false → lt z y = false → lt z x = false
def Sd (lt : α → α → Bool) (l : List α) : Prop := l.Pairwise (fun x y => lt y x = false)
theorem SW.irr {lt : α → α → Bool} (h : SW lt) (x : α) : lt x x = false := by
  cases e : lt x x with
  | false => rfl
  | true => have := h.asymm x x e; rw [e] at this; exact this
theorem merge_parts {lt : α → α → Bool} {A1 A2 B1 B2 M1 M2 : List α} (hA : Sd lt (A1 ++ A2)) (hB : Sd lt (B1 ++ B2)) (h12 : ∀ x ∈ A1, ∀ y ∈ B2, lt y x = false) (h21 : ∀ y ∈ B1, ∀ x ∈ A2, lt x y = false)
    (p1 : M1.Perm (A1 ++ B1)) (s1 : Sd lt M1) (p2 : M2.Perm (A2 ++ B2)) (s2 : Sd lt M2) : (M1 ++ M2).Perm ((A1 ++ A2) ++ (B1 ++ B2)) ∧ Sd lt (M1 ++ M2) := by
  constructor
  · refine (p1.append p2).trans ?_
    rw [List.append_assoc, List.append_assoc]
    refine List.Perm.append_left A1 ?_
    rw [← List.append_assoc, ← List.append_assoc]
    exact List.Perm.append_right B2 List.perm_append_comm
  · unfold Sd at *
    rw [List.pairwise_append] at hA hB ⊢
    refine ⟨s1, s2, fun x hx y hy => ?_⟩
    rcases List.mem_append.1 (p1.mem_iff.1 hx) with h | h <;> rcases List.mem_append.1 (p2.mem_iff.1 hy) with k | k
    · exact hA.2.2 x h y k
    · exact h12 x h y k
    · exact h21 x h y k
    · exact hB.2.2 x h y k
/-- All of A1 are no greater than all of B2, where A1's last isn't than B2's first. -/
theorem cross_le {lt : α → α → Bool} (H : SW lt) {A1 A2 B1 B2 : List α} (hA : Sd lt (A1 ++ A2)) (hB : Sd lt (B1 ++ B2)) (h : ∀ (x y : α), A1.getLast? = some x → B2.head? = some y → lt y x = false) : ∀ x ∈ A1, ∀ y ∈ B2, lt y x = false := by
  intro x hx y hy
  unfold Sd at hA hB
  rw [List.pairwise_append] at hA hB
  obtain ⟨P, q, rfl⟩ : ∃ P q, A1 = P ++ [q] := by
    rcases List.eq_nil_or_concat A1 with rfl | ⟨P, q, rfl⟩
    · cases hx
    · exact ⟨P, q, by rw [List.concat_eq_append]⟩
  cases B2 with
  | nil => cases hy
  | cons b T =>
    have h0 := h q b (by simp) (by simp)
    have h1 : lt q x = false := by
      rcases List.mem_append.1 hx with k | k
      · exact (List.pairwise_append.1 hA.1).2.2 x k q (by simp)
      · rw [List.mem_singleton.1 k]; exact H.irr q
    have h2 : lt y b = false := by
      rcases List.mem_cons.1 hy with k | k
      · rw [k]; exact H.irr b
      · exact (List.pairwise_cons.1 hB.2.1).1 y k
    exact H.ntrans x b y (H.ntrans x q b h1 h0) h2
theorem cross_lt {lt : α → α → Bool} (H : SW lt) {A1 A2 B1 B2 : List α} (hA : Sd lt (A1 ++ A2)) (hB : Sd lt (B1 ++ B2)) (h : ∀ (x y : α), B1.getLast? = some y → A2.head? = some x → lt y x = true) : ∀ y ∈ B1, ∀ x ∈ A2, lt x y = false :=
  cross_le H hB hA fun y x h1 h2 => H.asymm _ _ (h x y h1 h2)
/-- One that is put in where it belongs: behind what is less, ahead of what isn't. -/
theorem one_in {lt : α → α → Bool} (H : SW lt) {x : α} {B1 B2 : List α} (hB : Sd lt (B1 ++ B2)) (h1 : ∀ y, B1.getLast? = some y → lt x y = false) (h2 : ∀ y, B2.head? = some y → lt y x = false) : Sd lt (B1 ++ x :: B2) := by
  have hx : Sd lt [x] := by unfold Sd; simp
  have c1 : ∀ y ∈ B1, lt x y = false := by
    intro y hy
    have := cross_le H (A1 := B1) (A2 := B2) (B1 := []) (B2 := [x]) hB hx (fun a b ha hb => by
      have : x = b := by simpa using hb
      subst this
      exact h1 a ha) y hy x (by simp)
    exact this
  have c2 : ∀ y ∈ B2, lt y x = false := by
    intro y hy
    exact cross_le H (A1 := [x]) (A2 := []) (B1 := B1) (B2 := B2) (by simpa using hx) hB (fun a b ha hb => by
      have : x = a := by simpa using ha
      subst this
      exact h2 b hb) x (by simp) y hy
  unfold Sd at *
  rw [List.pairwise_append] at hB ⊢
  rw [List.pairwise_cons]
  refine ⟨hB.1, ⟨c2, hB.2.1⟩, fun a ha b hb => ?_⟩
  rcases List.mem_cons.1 hb with k | k
  · rw [k]; exact c1 a ha
  · exact hB.2.2 a ha b k
/-- Two sorted rows with the same elements are the same but for what is neither less nor greater. -/
theorem sorted_same {lt : α → α → Bool} (H : SW lt) : ∀ (a b : List α), a.Perm b → Sd lt a → Sd lt b → ∀ i (h1 : i < a.length) (h2 : i < b.length), lt a[i] b[i] = false ∧ lt b[i] a[i] = false := by
  have key : ∀ (a b : List α), a.Perm b → Sd lt a → Sd lt b → ∀ i (h1 : i < a.length) (h2 : i < b.length), lt a[i] b[i] = false := by
    intro a b hp ha hb i h1 h2
    cases hc : lt a[i] b[i] with
    | false => rfl
    | true =>
      exfalso
      have hall : ∀ x ∈ a.take (i + 1), ∀ y ∈ b.drop i, lt x y = true := by
        intro x hx y hy
        have hx1 : lt a[i] x = false := by
          obtain ⟨k, hk, rfl⟩ := List.getElem_of_mem hx
          rw [List.length_take] at hk
          rw [List.getElem_take]
          by_cases e : k = i
          · subst e; exact H.irr _
          · exact List.pairwise_iff_getElem.1 ha k i (by omega) h1 (by omega)
        have hy1 : lt y b[i] = false := by
          obtain ⟨k, hk, rfl⟩ := List.getElem_of_mem hy
          rw [List.length_drop] at hk
          rw [List.getElem_drop]
          by_cases e : k = 0
          · subst e; exact H.irr _
          · exact List.pairwise_iff_getElem.1 hb i (i + k) h2 (by omega) (by omega)
        cases hd : lt x y with
        | true => rfl
        | false =>
          have := H.ntrans b[i] y a[i] hy1 (H.ntrans y x a[i] hd hx1)
          rw [hc] at this; cases this
      have hcount := hp.countP_eq (fun z => decide (∃ y ∈ b.drop i, lt z y = false))
      have c1 : (a.countP fun z => decide (∃ y ∈ b.drop i, lt z y = false)) ≤ a.length - (i + 1) := by
        conv => lhs; rw [← List.take_append_drop (i + 1) a]
        rw [List.countP_append]
        have z1 : ((a.take (i + 1)).countP fun z => decide (∃ y ∈ b.drop i, lt z y = false)) = 0 := by
          rw [List.countP_eq_zero]
          intro z hz
          simp only [decide_eq_true_eq, not_exists, not_and]
          intro y hy
          rw [hall z hz y hy]; decide
        rw [z1, Nat.zero_add]
        exact Nat.le_trans List.countP_le_length (by rw [List.length_drop]; exact Nat.le_refl _)
      have c2 : b.length - i ≤ (b.countP fun z => decide (∃ y ∈ b.drop i, lt z y = false)) := by
        have z0 : (b.countP fun z => decide (∃ y ∈ b.drop i, lt z y = false)) = ((b.take i).countP fun z => decide (∃ y ∈ b.drop i, lt z y = false)) + ((b.drop i).countP fun z => decide (∃ y ∈ b.drop i, lt z y = false)) := by
          rw [← List.countP_append, List.take_append_drop]
        have z2 : ((b.drop i).countP fun z => decide (∃ y ∈ b.drop i, lt z y = false)) = (b.drop i).length := by
          rw [List.countP_eq_length]
          intro z hz
          simp only [decide_eq_true_eq]
          exact ⟨z, hz, H.irr z⟩
        have z3 : (b.drop i).length = b.length - i := List.length_drop
        omega
      have hl := hp.length_eq
      rw [hcount] at c1
      omega
  intro a b hp ha hb i h1 h2
  exact ⟨key a b hp ha hb i h1 h2, key b a hp.symm hb ha i h2 h1⟩
/-- Two places exchanged. -/
def swp (z : α) (d : List α) (i j : Nat) : List α := (d.set i (d.getD j z)).set j (d.getD i z)
theorem swp_split (z : α) (X Z Y : List α) (p q : α) (i j : Nat) (hi : X.length = i) (hj : X.length + 1 + Z.length = j) : swp z (X ++ p :: (Z ++ q :: Y)) i j = X ++ q :: (Z ++ p :: Y) := by
  subst hi; subst hj
  unfold swp
  have g1 : (X ++ p :: (Z ++ q :: Y)).getD X.length z = p := by
    rw [List.getD_eq_getElem?_getD, List.getElem?_append_right (Nat.le_refl _), Nat.sub_self]; rfl
  have g2 : (X ++ p :: (Z ++ q :: Y)).getD (X.length + 1 + Z.length) z = q := by
    rw [List.getD_eq_getElem?_getD, List.getElem?_append_right (by omega), show X.length + 1 + Z.length - X.length = Z.length + 1 by omega, List.getElem?_cons_succ, List.getElem?_append_right (Nat.le_refl _), Nat.sub_self]; rfl
  rw [g1, g2, List.set_append_right _ _ (Nat.le_refl _), Nat.sub_self, List.set_cons_zero, List.set_append_right _ _ (by omega), show X.length + 1 + Z.length - X.length = Z.length + 1 by omega, List.set_cons_succ, List.set_append_right _ _ (Nat.le_refl _), Nat.sub_self, List.set_cons_zero]
theorem swp_len (z : α) (d : List α) (i j : Nat) : (swp z d i j).length = d.length := by unfold swp; simp
/-- Behind i rounds of an exchange of P and Q. -/
def stq (X P Z Q Y : List α) (i : Nat) : List α := X ++ (Q.take i ++ (P.drop i ++ (Z ++ (P.take i ++ (Q.drop i ++ Y)))))
theorem stq_zero (X P Z Q Y : List α) : stq X P Z Q Y 0 = X ++ (P ++ (Z ++ (Q ++ Y))) := by simp [stq]
theorem stq_all (X P Z Q Y : List α) (n : Nat) (hP : P.length = n) (hQ : Q.length = n) : stq X P Z Q Y n = X ++ (Q ++ (Z ++ (P ++ Y))) := by
  unfold stq
  rw [List.take_of_length_le (by omega), List.take_of_length_le (by omega), List.drop_eq_nil_of_le (by omega), List.drop_eq_nil_of_le (by omega), List.nil_append, List.nil_append]
theorem stq_step (z : α) (X P Z Q Y : List α) (n : Nat) (hP : P.length = n) (hQ : Q.length = n) (i : Nat) (hi : i < n) : swp z (stq X P Z Q Y i) (X.length + i) (X.length + n + Z.length + i) = stq X P Z Q Y (i + 1) := by
  have hp : i < P.length := by omega
  have hq : i < Q.length := by omega
  have e1 : stq X P Z Q Y i = (X ++ Q.take i) ++ P[i] :: ((P.drop (i + 1) ++ Z ++ P.take i) ++ Q[i] :: (Q.drop (i + 1) ++ Y)) := by
    unfold stq
    rw [List.drop_eq_getElem_cons hp, List.drop_eq_getElem_cons hq]
    simp only [List.append_assoc, List.cons_append, List.nil_append]
  rw [e1, swp_split z _ _ _ _ _ _ _ (by rw [List.length_append, List.length_take]; omega) (by rw [List.length_append, List.length_append, List.length_append, List.length_take, List.length_take, List.length_drop]; omega)]
  unfold stq
  rw [List.take_succ_eq_append_getElem hp, List.take_succ_eq_append_getElem hq]
  simp only [List.append_assoc, List.cons_append, List.nil_append]
theorem Sd_nil (lt : α → α → Bool) : Sd lt [] := List.Pairwise.nil
theorem Sd_one (lt : α → α → Bool) (x : α) : Sd lt [x] := List.pairwise_singleton _ _
theorem Sd_left {lt : α → α → Bool} {A B : List α} (h : Sd lt (A ++ B)) : Sd lt A := (List.pairwise_append.1 h).1
theorem Sd_right {lt : α → α → Bool} {A B : List α} (h : Sd lt (A ++ B)) : Sd lt B := (List.pairwise_append.1 h).2.1
end Go.Proofs.Ytebfnmhpmgjoiaa.SM
