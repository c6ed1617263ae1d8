/- sorting floats: symMerge, what its parts leave. -/
import Derived.Test.YtebfnmhpmgjoiaaSe
import Derived.Test.YtebfnmhpmgjoiaaSf
namespace Go.Proofs.Ytebfnmhpmgjoiaa.Fl
open Go.RowKit FT SM
set_option linter.unusedVariables false
set_option linter.unusedSimpArgs false
/-- symMerge's contract, at rows of k in all. -/
def SMC (k : Nat) : Prop := ∀ (X A B Y : List Nat) (N c g : Nat) (w : World), Rw w g (X ++ (A ++ (B ++ Y))) → A.length + B.length ≤ k → 0 < A.length → 0 < B.length → Sd less A → Sd less B → X.length + A.length + B.length ≤ N → N ≤ (X ++ (A ++ (B ++ Y))).length → N ≤ 1000000 → ∀ (a m b : Int), a = X.length → m = (X.length + A.length : Nat) → b = (X.length + A.length + B.length : Nat) →
    Calls Try.prog 47 #[.slice (some ⟨g, 0, none⟩) N c, .int .i64 a, .int .i64 m, .int .i64 b, .func (.func 43) #[] #[]] w fun e w' => e = .returned (.tuple #[]) ∧ Srt w w' g X (A ++ B) Y
/-- Behind the search: s of A and e of B go ahead. -/
structure Stg (w w' : World) (g : Nat) (X A B Y : List Nat) (s e : Nat) : Prop where
  row : Rw w' g (X ++ (A ++ (B ++ Y)))
  bt : Bt g w w'
  sa : Sd less A
  sb : Sd less B
  hs : s ≤ A.length
  he : e ≤ B.length
  lo : s = 0 ∨ e = B.length ∨ less (B.getD e 0) (A.getD (s - 1) 0) = false
  hi : s = A.length ∨ e = 0 ∨ less (B.getD (e - 1) 0) (A.getD s 0) = true
/-- Behind the rotation. -/
structure Stg1 (w w' : World) (g : Nat) (X A B Y : List Nat) (s e : Nat) : Prop where
  row : Rw w' g (X ++ (A.take s ++ (B.take e ++ (A.drop s ++ (B.drop e ++ Y)))))
  bt : Bt g w w'
/-- Behind the first half. -/
structure Stg2 (w w' : World) (g : Nat) (X A B Y : List Nat) (s e : Nat) : Prop where
  ex : ∃ M1, Rw w' g (X ++ (M1 ++ (A.drop s ++ (B.drop e ++ Y)))) ∧ M1.Perm (A.take s ++ B.take e) ∧ Sd less M1
  bt : Bt g w w'
theorem Stg.none {w w' : World} {g : Nat} {X A B Y : List Nat} {s e : Nat} (h : Stg w w' g X A B Y s e) (h0 : s = A.length ∨ e = 0) : Stg1 w w' g X A B Y s e := by
  refine ⟨?_, h.bt⟩
  have hr := h.row
  rcases h0 with rfl | rfl
  · rw [List.take_length, List.drop_length, List.nil_append]
    rw [← List.append_assoc (B.take e), List.take_append_drop]
    exact hr
  · rw [List.take_zero, List.drop_zero, List.nil_append, ← List.append_assoc (A.take s), List.take_append_drop]
    exact hr
theorem Stg.rot {w w' w2 : World} {g : Nat} {X A B Y : List Nat} {s e : Nat} (h : Stg w w' g X A B Y s e) (hd : Do w' w2 g ((X ++ A.take s) ++ (B.take e ++ (A.drop s ++ (B.drop e ++ Y))))) : Stg1 w w2 g X A B Y s e :=
  ⟨by have := hd.row; rw [List.append_assoc] at this; exact this, h.bt.trans hd.bt⟩
theorem Stg.pre {w w' : World} {g : Nat} {X A B Y : List Nat} {s e : Nat} (h : Stg w w' g X A B Y s e) : Rw w' g ((X ++ A.take s) ++ (A.drop s ++ (B.take e ++ (B.drop e ++ Y)))) := by
  have hr := h.row
  rw [List.append_assoc, ← List.append_assoc (A.take s), List.take_append_drop, ← List.append_assoc (B.take e), List.take_append_drop]
  exact hr
theorem Stg1.none {w w' w2 : World} {g : Nat} {X A B Y : List Nat} {s e : Nat} (h : Stg1 w w2 g X A B Y s e) (k : Stg w w' g X A B Y s e) (h0 : s = 0 ∨ e = 0) : Stg2 w w2 g X A B Y s e := by
  refine ⟨⟨A.take s ++ B.take e, by rw [List.append_assoc]; exact h.row, List.Perm.refl _, ?_⟩, h.bt⟩
  have h1 : Sd less (A.take s) := Sd_left (B := A.drop s) (by rw [List.take_append_drop]; exact k.sa)
  have h2 : Sd less (B.take e) := Sd_left (B := B.drop e) (by rw [List.take_append_drop]; exact k.sb)
  rcases h0 with rfl | rfl
  · simpa using h2
  · simpa using h1
theorem Stg1.one {w w2 w3 : World} {g : Nat} {X A B Y : List Nat} {s e : Nat} (h : Stg1 w w2 g X A B Y s e) (hs : Srt w2 w3 g X (A.take s ++ B.take e) (A.drop s ++ (B.drop e ++ Y))) : Stg2 w w3 g X A B Y s e := ⟨hs.ex, h.bt.trans hs.bt⟩
theorem Stg.fin {w w' w4 : World} {g : Nat} {X A B Y : List Nat} {s e : Nat} (k : Stg w w' g X A B Y s e) (M1 M2 : List Nat) (p1 : M1.Perm (A.take s ++ B.take e)) (s1 : Sd less M1) (p2 : M2.Perm (A.drop s ++ B.drop e)) (s2 : Sd less M2) (hr : Rw w4 g (X ++ (M1 ++ (M2 ++ Y)))) (hb : Bt g w w4) : Srt w w4 g X (A ++ B) Y := by
  have hA : Sd less (A.take s ++ A.drop s) := by rw [List.take_append_drop]; exact k.sa
  have hB : Sd less (B.take e ++ B.drop e) := by rw [List.take_append_drop]; exact k.sb
  have c1 : ∀ x ∈ A.take s, ∀ y ∈ B.drop e, less y x = false := cross_le less_SW hA hB (by
    intro x y hx hy
    have hs0 : s ≠ 0 := by rintro rfl; simp at hx
    have hx' : A.getD (s - 1) 0 = x := by
      rw [List.getLast?_take, if_neg hs0] at hx
      rw [List.getD_eq_getElem?_getD]
      cases hq : A[s - 1]? with
      | none => exact absurd (List.getElem?_eq_none_iff.1 hq) (by have := k.hs; omega)
      | some u => rw [hq] at hx; simpa using hx
    have hy' : B.getD e 0 = y := by
      rw [List.head?_drop] at hy
      rw [List.getD_eq_getElem?_getD, hy]; rfl
    have he : e < B.length := by
      rw [List.head?_drop] at hy
      exact (List.getElem?_eq_some_iff.1 hy).1
    rcases k.lo with h | h | h
    · exact absurd h hs0
    · omega
    · rw [hx', hy'] at h; exact h)
  have c2 : ∀ y ∈ B.take e, ∀ x ∈ A.drop s, less x y = false := cross_lt less_SW hA hB (by
    intro x y hy hx
    have he0 : e ≠ 0 := by rintro rfl; simp at hy
    have hy' : B.getD (e - 1) 0 = y := by
      rw [List.getLast?_take, if_neg he0] at hy
      rw [List.getD_eq_getElem?_getD]
      cases hq : B[e - 1]? with
      | none => exact absurd (List.getElem?_eq_none_iff.1 hq) (by have := k.he; omega)
      | some u => rw [hq] at hy; simpa using hy
    have hx' : A.getD s 0 = x := by
      rw [List.head?_drop] at hx
      rw [List.getD_eq_getElem?_getD, hx]; rfl
    have hs : s < A.length := by
      rw [List.head?_drop] at hx
      exact (List.getElem?_eq_some_iff.1 hx).1
    rcases k.hi with h | h | h
    · omega
    · exact absurd h he0
    · rw [hx', hy'] at h; exact h)
  obtain ⟨q1, q2⟩ := merge_parts hA hB c1 c2 p1 s1 p2 s2
  rw [List.take_append_drop, List.take_append_drop] at q1
  exact ⟨⟨M1 ++ M2, by rw [List.append_assoc]; exact hr, q1, q2⟩, hb⟩
theorem Stg2.none {w w' w3 : World} {g : Nat} {X A B Y : List Nat} {s e : Nat} (h : Stg2 w w3 g X A B Y s e) (k : Stg w w' g X A B Y s e) (h0 : s = A.length ∨ e = B.length) : Srt w w3 g X (A ++ B) Y := by
  obtain ⟨M1, hr, p1, s1⟩ := h.ex
  have h1 : Sd less (A.drop s) := Sd_right (A := A.take s) (by rw [List.take_append_drop]; exact k.sa)
  have h2 : Sd less (B.drop e) := Sd_right (A := B.take e) (by rw [List.take_append_drop]; exact k.sb)
  refine k.fin M1 (A.drop s ++ B.drop e) p1 s1 (List.Perm.refl _) ?_ (by rw [List.append_assoc]; exact hr) h.bt
  rcases h0 with rfl | rfl
  · simpa using h2
  · simpa using h1
theorem Stg2.one {w w' w3 w4 : World} {g : Nat} {X A B Y M1 : List Nat} {s e : Nat} (k : Stg w w' g X A B Y s e) (hb : Bt g w w3) (p1 : M1.Perm (A.take s ++ B.take e)) (s1 : Sd less M1) (hs : Srt w3 w4 g (X ++ M1) (A.drop s ++ B.drop e) Y) : Srt w w4 g X (A ++ B) Y := by
  obtain ⟨M2, hr, p2, s2⟩ := hs.ex
  exact k.fin M1 M2 p1 s1 p2 s2 (by rw [List.append_assoc] at hr; exact hr) (hb.trans hs.bt)
end Go.Proofs.Ytebfnmhpmgjoiaa.Fl
