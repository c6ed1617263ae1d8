/- sorting floats: insertionSort. -/
import Derived.Test.YtebfnmhpmgjoiaaSb
import Derived.Deep.QuietTactic
import Derived.BigQuiet
namespace Go.Proofs.Ytebfnmhpmgjoiaa.Fl
open Go.RowKit FT SM
set_option linter.unusedVariables false
set_option linter.unusedSimpArgs false
attribute [local go_sem] run_store_float
theorem swp_comm (d : List Nat) (i j : Nat) (h : i ≠ j) : swp 0 d i j = swp 0 d j i := by unfold swp; rw [List.set_comm _ _ h]
theorem compare_q (x y : Nat) (w : World) : Calls Try.prog 43 #[.float .f64 x, .float .f64 y] w fun e w' => e = .returned (.int .i64 (cmpv x y)) ∧ w' = w := (compare_calls x y w).mono fun _ _ h => ⟨h.1, h.2.symm⟩
def CM : Value := .func (.func 43) #[] #[]
/-- What is left of an insertion: x stands behind S1, ahead of S2. -/
structure In1 (w w' : World) (g : Nat) (X S R Y : List Nat) (x s1 : Nat) : Prop where
  ex : ∃ S1 S2, Rw w' g (X ++ (S1 ++ (x :: (S2 ++ (R ++ Y))))) ∧ S1 ++ S2 = S ∧ S1.length = s1 ∧ (∀ y, S2.head? = some y → less x y = true)
  bt : Bt g w w'
structure In0 (w w' : World) (g : Nat) (X A Y : List Nat) (s : Nat) : Prop where
  ex : ∃ S R, Rw w' g (X ++ (S ++ (R ++ Y))) ∧ S.length = s ∧ (S ++ R).Perm A ∧ Sd less S
  bt : Bt g w w'
structure Srt (w w' : World) (g : Nat) (X A Y : List Nat) : Prop where
  ex : ∃ M, Rw w' g (X ++ (M ++ Y)) ∧ M.Perm A ∧ Sd less M
  bt : Bt g w w'
theorem In1.done {w w' : World} {g : Nat} {X S R Y : List Nat} {x s1 : Nat} {A : List Nat} (h : In1 w w' g X S R Y x s1) (hS : Sd less S) (hp : (S ++ x :: R).Perm A) (hl : s1 = 0 ∨ ∀ S1 S2, S1 ++ S2 = S → S1.length = s1 → ∀ y, S1.getLast? = some y → less x y = false) : In0 w w' g X A Y (S.length + 1) := by
  obtain ⟨S1, S2, h1, h2, h3, h4⟩ := h.ex
  refine ⟨⟨S1 ++ x :: S2, R, ?_, ?_, ?_, ?_⟩, h.bt⟩
  · simpa [List.append_assoc] using h1
  · rw [← h2]; simp; omega
  · refine List.Perm.trans ?_ hp
    rw [← h2]
    simp only [List.append_assoc, List.cons_append]
    refine List.Perm.append_left S1 ?_
    exact List.perm_middle.symm
  · refine one_in less_SW (by rw [h2]; exact hS) ?_ ?_
    · intro y hy
      rcases hl with h0 | h0
      · subst h0
        rw [List.eq_nil_of_length_eq_zero h3] at hy
        cases hy
      · exact h0 S1 S2 h2 h3 y hy
    · intro y hy
      exact less_asymm (h4 y hy)
theorem Bt.drewN {g : Nat} {x y : World} (h : Bt g x y) (m : Nat) : Bt g x (y.drewN m) := ⟨h.os, h.tape, h.output, h.size, h.rest⟩
theorem In0.drewN {w w' : World} {g s : Nat} {X A Y : List Nat} (h : In0 w w' g X A Y s) (m : Nat) : In0 w (w'.drewN m) g X A Y s := ⟨h.ex, h.bt.drewN m⟩
theorem In1.split {w w' : World} {g : Nat} {X S R Y : List Nat} {x t : Nat} (h : In1 w w' g X S R Y x (t + 1)) (hl : S.length ≤ 1000000) : ∃ P q S2, Rw w' g (X ++ (P ++ (q :: (x :: (S2 ++ (R ++ Y)))))) ∧ P ++ q :: S2 = S ∧ P.length = t ∧ (∀ y, S2.head? = some y → less x y = true) := by
  obtain ⟨S1, S2, h1, h2, h3, h4⟩ := h.ex
  rcases List.eq_nil_or_concat S1 with rfl | ⟨P, q, rfl⟩
  · simp at h3
  · rw [List.concat_eq_append] at h1 h2 h3
    exact ⟨P, q, S2, by simpa [List.append_assoc] using h1, by rw [← h2]; simp, by simpa using h3, h4⟩
set_option maxHeartbeats 4000000 in
theorem insertionSort (X A Y : List Nat) (N c g : Nat) (w : World) (hw : Rw w g (X ++ (A ++ Y))) (hN : X.length + A.length ≤ N) (hNd : N ≤ (X ++ (A ++ Y)).length) (hs : N ≤ 1000000) (a b : Int) (ha : a = X.length) (hb : b = (X.length + A.length : Nat)) :
    Calls Try.prog 46 #[.slice (some ⟨g, 0, none⟩) N c, .int .i64 a, .int .i64 b, .func (.func 43) #[] #[]] w fun e w' => e = .returned (.tuple #[]) ∧ Srt w w' g X A Y := by
  obtain ⟨n, hn⟩ : ∃ n, A.length = n := ⟨_, rfl⟩
  obtain ⟨xl, hxl⟩ : ∃ xl, X.length = xl := ⟨_, rfl⟩
  have HA1 : Hid (wrap64 (a + 1) = ((xl + 1 : Nat) : Int)) := hid (by rw [wrap_small _ (by omega) (by omega)]; omega)
  have hda : decide (a < a) = false := by simp
  have HN := hid (show xl + n ≤ N ∧ N ≤ (X ++ (A ++ Y)).length ∧ N ≤ 1000000 ∧ A.length = n ∧ X.length = xl ∧ a = xl ∧ b = (xl + n : Nat) from ⟨by omega, hNd, hs, hn, hxl, by omega, by omega⟩)
  have HW := hid hw
  have hstart : 0 < n → In0 w w g X A Y 1 := by
    intro h0
    cases A with
    | nil => simp at hn; omega
    | cons q T => exact ⟨⟨[q], T, by simpa using hw, rfl, List.Perm.refl _, Sd_one _ _⟩, Bt.refl _ _⟩
  have HST := hid hstart
  by_cases h0 : n = 0
  · have hnil : A = [] := List.eq_nil_of_length_eq_zero (by omega)
    have hb1 : decide (a + 1 < b) = false := decide_eq_false (by omega)
    have hw1 := HA1.out
    have he : ((xl + 1 : Nat) : Int) = a + 1 := by omega
    rw [he] at hw1
    subst hnil
    clear hw hN hNd hs ha hb hn hxl hstart h0 he
    go_enter Try.func46, Try.ntmps46
    go_wp2
    go_loopg [8] 1 (fun kq v8 w' => v8 = .int .i64 (a + 1) ∧ w' = w)
    case atStart => exact ⟨by first | rfl | exact congrArg (Value.int .i64) hw1, rfl⟩
    case round =>
      obtain ⟨rfl, rfl⟩ := hrel
      go_wp2
      exact ⟨rfl, .tuple #[], by simp [results, Try.results46], rfl, ⟨[], HW.out, List.Perm.refl _, Sd_nil _⟩, Bt.refl _ _⟩
  · have hw1 := HA1.out
    have HN0 := hid (show 0 < n by omega)
    clear hw hN hNd hs ha hb hn hxl hstart h0
    go_enter Try.func46, Try.ntmps46
    go_wp2
    go_loopg [8] (n + 1) (fun kq v8 w' => ∃ s : Nat, v8 = .int .i64 ((xl + s : Nat) : Int) ∧ Hid (s + kq = n + 2 ∧ 1 ≤ s ∧ s ≤ n) ∧ Hid (In0 w w' g X A Y s))
    case atStart => exact ⟨1, by first | rfl | exact congrArg (Value.int .i64) HA1.out, hid ⟨by omega, by omega, by have := HN0.out; omega⟩, hid (HST.out HN0.out)⟩
    case round =>
      clear hw1
      obtain ⟨s, rfl, HS, HI⟩ := hrel
      cases gk with
      | zero => exact absurd HS.out.1 (by have := HS.out; omega)
      | succ k1 =>
        obtain ⟨SI, hSI⟩ : ∃ SI : Int, ((xl + s : Nat) : Int) = SI := ⟨_, rfl⟩
        rw [hSI]
        by_cases cs : s < n
        · have hb1 : decide (SI < b) = true := decide_eq_true (by have := HN.out; omega)
          obtain ⟨S, R, hrw, hSl, hp, hsd⟩ := HI.out.ex
          have hRl : 0 < R.length := by
            have := hp.length_eq
            have := HN.out
            rw [List.length_append] at this; simp at *; omega
          obtain ⟨x, R', rfl⟩ : ∃ x R', R = x :: R' := by
            cases R with
            | nil => simp at hRl
            | cons x T => exact ⟨x, T, rfl⟩
          have HI1 : Hid (In1 w wr g X S R' Y x s) := hid ⟨⟨S, [], by simpa using hrw, by simp, hSl, fun y hy => by cases hy⟩, HI.out.bt⟩
          have HP := hid hp
          have HSD := hid hsd
          have HSL := hid hSl
          have HSI := hid hSI
          clear hrw hSl hp hsd hRl hSI
          go_wp2
          go_loopg [9] (s + 1) (fun kq v9 w' => ∃ s1 : Nat, v9 = .int .i64 ((xl + s1 : Nat) : Int) ∧ Hid (s1 < kq ∧ s1 ≤ s) ∧ Hid (In1 w w' g X S R' Y x s1))
          case atStart => exact ⟨s, congrArg (Value.int .i64) HSI.out.symm, hid ⟨by omega, by omega⟩, HI1⟩
          case round =>
            obtain ⟨s1, rfl, HK, H1⟩ := hrel
            cases gk with
            | zero => exact absurd HK.out.1 (by omega)
            | succ k2 =>
              obtain ⟨JI, hJI⟩ : ∃ JI : Int, ((xl + s1 : Nat) : Int) = JI := ⟨_, rfl⟩
              rw [hJI]
              have HSW : Hid (wrap64 (SI + 1) = ((xl + (s + 1) : Nat) : Int)) := hid (by
                have := HSI.out
                have := HN.out
                rw [wrap_small _ (by omega) (by omega)]; omega)
              have fin0 : (s1 = 0 ∨ ∀ S1 S2, S1 ++ S2 = S → S1.length = s1 → ∀ y, S1.getLast? = some y → less x y = false) → Hid (∀ m, In0 w (wr.drewN m) g X A Y (s + 1)) := fun h => hid fun m => by
                have h1 := H1.out.done HSD.out HP.out h
                rw [HSL.out] at h1
                exact h1.drewN m
              by_cases c1 : s1 = 0
              · have hb2 : decide (a < JI) = false := decide_eq_false (by have := HN.out; omega)
                have HF := fin0 (Or.inl c1)
                clear fin0 c1 hJI
                go_upto_region 4 with fail
                go_quiet (fail)
                go_wp2
                go_roundg k1
                case measure => omega
                case rel => exact ⟨s + 1, congrArg (Value.int .i64) HSW.out, hid ⟨by have := HS.out; omega, by omega, by omega⟩, hid (by first | exact HF.out _ | exact HF.out 1 | exact HF.out 0)⟩
              · obtain ⟨t, rfl⟩ : ∃ t, s1 = t + 1 := ⟨s1 - 1, by omega⟩
                have hb2 : decide (a < JI) = true := decide_eq_true (by have := HN.out; omega)
                obtain ⟨P, q, S2, hrw, hS, hPl, hhd⟩ := H1.out.split (by have := HSL.out; have := HN.out; omega)
                have HRW := hid hrw
                obtain ⟨J1, hJ1⟩ : ∃ J1 : Int, ((xl + t : Nat) : Int) = J1 := ⟨_, rfl⟩
                obtain ⟨jn, hjn⟩ : ∃ jn, xl + (t + 1) = jn := ⟨_, rfl⟩
                obtain ⟨jm, hjm⟩ : ∃ jm, xl + t = jm := ⟨_, rfl⟩
                have hXP : (X ++ P).length = jm := by have := HN.out; rw [List.length_append]; omega
                have e1 : X ++ (P ++ (q :: (x :: (S2 ++ (R' ++ Y))))) = (X ++ P) ++ q :: ([] ++ x :: (S2 ++ (R' ++ Y))) := by simp
                have hdl : (X ++ (P ++ (q :: (x :: (S2 ++ (R' ++ Y)))))).length = (X ++ (A ++ Y)).length := by
                  have := HP.out.length_eq
                  rw [← hS] at this
                  simp only [List.length_append, List.length_cons] at this ⊢
                  omega
                have hsp : swp 0 (X ++ (P ++ (q :: (x :: (S2 ++ (R' ++ Y)))))) jn jm = X ++ (P ++ (x :: ((q :: S2) ++ (R' ++ Y)))) := by
                  rw [swp_comm _ _ _ (by omega), e1, swp_split 0 (X ++ P) [] _ q x jm jn hXP (by rw [hXP]; simp; omega)]
                  simp
                have gq : (X ++ (P ++ (q :: (x :: (S2 ++ (R' ++ Y)))))).getD jm 0 = q := by
                  rw [e1, List.getD_eq_getElem?_getD, List.getElem?_append_right (by omega), hXP, Nat.sub_self]; rfl
                have gx : (X ++ (P ++ (q :: (x :: (S2 ++ (R' ++ Y)))))).getD jn 0 = x := by
                  rw [e1, List.getD_eq_getElem?_getD, List.getElem?_append_right (by omega), hXP, show jn - jm = 1 by omega]; rfl
                have ca := hrw.cell jn (by have := HN.out; have := HS.out; have := HK.out; omega)
                have cb := hrw.cell jm (by have := HN.out; have := HS.out; have := HK.out; omega)
                have fa := hrw.frozen jn
                have fb := hrw.frozen jm
                have fb2 := (hrw.set jn q).frozen jm
                have hsw := swap_do hrw jn jm
                rw [hsp, gq, gx] at hsw
                rw [gx] at ca
                rw [gq] at cb
                have HSWD := hid hsw
                have w1 : IntKind.i64.wrap (JI - 1) = J1 := by have := HN.out; have := HS.out; have := HK.out; rw [i64_small _ (by omega) (by omega)]; omega
                have W2 : Hid (wrap64 (JI - 1) = J1) := hid (by rw [← wrap_i64_is]; exact w1)
                have t1 : JI.toNat = jn := by omega
                have t2 : J1.toNat = jm := by omega
                have p1 : 0 ≤ JI := by omega
                have p2 : 0 ≤ J1 := by omega
                have q1 : JI < (N : Int) := by have := HN.out; have := HS.out; have := HK.out; omega
                have q2 : J1 < (N : Int) := by have := HN.out; have := HS.out; have := HK.out; omega
                have hab : jn ≠ jm := by omega
                have hab2 : jm ≠ jn := by omega
                have HJ1 := hid hJ1
                have HJM := hid hjm
                have HPL := hid hPl
                have HSS := hid hS
                have w2 := W2.out
                cases hl : less x q with
                | false =>
                  have hneg : decide (cmpv x q < 0) = false := by rw [cmpv_neg, hl]
                  have HF := fin0 (Or.inr (by
                    intro S1' S2' h1 h2 y hy
                    have : S1' = P ++ [q] := by
                      refine (List.append_inj (s₁ := S1') (s₂ := P ++ [q]) (t₁ := S2') (t₂ := S2) ?_ ?_).1
                      · rw [h1, ← hS]; simp
                      · rw [h2]; simp; omega
                    rw [this] at hy
                    have : q = y := by simpa using hy
                    rw [← this]; exact hl))
                  clear fin0 hrw hS hPl hhd hXP e1 hdl hsp gq gx hsw hJI hJ1 hjn hjm c1
                  go_upto_region 4 with fail
                  go_quiet (first | (go_at_call 43; exact Calls.quiet_of_same (compare_q x q _)))
                  go_wp2
                  go_roundg k1
                  case measure => omega
                  case rel => exact ⟨s + 1, congrArg (Value.int .i64) HSW.out, hid ⟨by have := HS.out; omega, by omega, by omega⟩, hid (by first | exact HF.out _ | exact HF.out 1 | exact HF.out 0)⟩
                | true =>
                  have hneg : decide (cmpv x q < 0) = true := by rw [cmpv_neg, hl]
                  have HF : Hid (∀ W, Bt g wr W → Rw W g (X ++ (P ++ (x :: ((q :: S2) ++ (R' ++ Y))))) → In1 w W g X S R' Y x t) := hid fun W hb hr => ⟨⟨P, q :: S2, hr, hS, hPl, fun y hy => by
                    have : q = y := by simpa using hy
                    rw [← this]; exact hl⟩, H1.out.bt.trans hb⟩
                  clear fin0 hrw hS hPl hhd hXP e1 hdl hsp gq gx hsw hJI hJ1 hjn hjm c1
                  go_upto_region 4 with fail
                  go_quiet (first | (go_at_call 43; exact Calls.quiet_of_same (compare_q x q _)))
                  go_upto_region 6 with fail
                  go_region
                  go_wp2
                  go_roundg k2
                  case measure => omega
                  case rel => exact ⟨t, congrArg (Value.int .i64) (by first | exact W2.out.trans HJ1.out.symm | exact HJ1.out.symm), hid ⟨by have := HK.out; omega, by have := HK.out; omega⟩, hid (HF.out _ ⟨HSWD.out.bt.os, HSWD.out.bt.tape, HSWD.out.bt.output, HSWD.out.bt.size, HSWD.out.bt.rest⟩ HSWD.out.row)⟩
        · have hb1 : decide (SI < b) = false := decide_eq_false (by have := HN.out; omega)
          have HD : Hid (Srt w wr g X A Y) := hid (by
            obtain ⟨S, R, hrw, hSl, hp, hsd⟩ := HI.out.ex
            have hR : R = [] := by
              have h1 := hp.length_eq
              have := HN.out
              rw [List.length_append] at h1
              exact List.eq_nil_of_length_eq_zero (by have := HS.out; omega)
            subst hR
            exact ⟨⟨S, by simpa using hrw, by simpa using hp, hsd⟩, HI.out.bt⟩)
          go_wp2
          exact ⟨rfl, .tuple #[], by simp [results, Try.results46], rfl, HD.out⟩
end Go.Proofs.Ytebfnmhpmgjoiaa.Fl
