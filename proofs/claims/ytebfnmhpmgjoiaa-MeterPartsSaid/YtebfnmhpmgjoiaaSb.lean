/- sorting floats: rotate. -/
import Derived.Test.YtebfnmhpmgjoiaaSa
namespace Go.Proofs.Ytebfnmhpmgjoiaa.Fl
open Go.RowKit FT SM
set_option linter.unusedVariables false
set_option linter.unusedSimpArgs false
/-- What is still to be rotated about m. -/
structure Ro (w w' : World) (g m i j : Nat) (T : List Nat) : Prop where
  ex : ∃ X A B Y, Rw w' g (X ++ (A ++ (B ++ Y))) ∧ A.length = i ∧ B.length = j ∧ X.length + i = m ∧ X ++ (B ++ (A ++ Y)) = T
  bt : Bt g w w'
set_option maxHeartbeats 4000000 in
theorem rotate (cm : Value) (X A B Y : List Nat) (N c g : Nat) (w : World) (hw : Rw w g (X ++ (A ++ (B ++ Y)))) (hA : 0 < A.length) (hB : 0 < B.length) (hN : X.length + A.length + B.length ≤ N) (hNd : N ≤ (X ++ (A ++ (B ++ Y))).length) (hs : N ≤ 1000000) (a m b : Int) (ha : a = X.length) (hm : m = (X.length + A.length : Nat)) (hb : b = (X.length + A.length + B.length : Nat)) :
    Calls Try.prog 48 #[.slice (some ⟨g, 0, none⟩) N c, .int .i64 a, .int .i64 m, .int .i64 b, cm] w fun e w' => e = .returned (.tuple #[]) ∧ Do w w' g (X ++ (B ++ (A ++ Y))) := by
  obtain ⟨T, hT⟩ : ∃ T, X ++ (B ++ (A ++ Y)) = T := ⟨_, rfl⟩
  obtain ⟨M, hM⟩ : ∃ M, X.length + A.length = M := ⟨_, rfl⟩
  obtain ⟨i0, hi0⟩ : ∃ i0, A.length = i0 := ⟨_, rfl⟩
  obtain ⟨j0, hj0⟩ : ∃ j0, B.length = j0 := ⟨_, rfl⟩
  have hTl : T.length = (X ++ (A ++ (B ++ Y))).length := by rw [← hT]; simp only [List.length_append]; omega
  have HR0 : Hid (Ro w w g M i0 j0 T) := hid ⟨⟨X, A, B, Y, hw, hi0, hj0, by omega, hT⟩, Bt.refl _ _⟩
  have HN := hid (show M + j0 ≤ N ∧ N ≤ T.length ∧ N ≤ 1000000 ∧ 0 < i0 ∧ 0 < j0 ∧ i0 ≤ M from ⟨by omega, by omega, hs, by omega, by omega, by omega⟩)
  have hmM : m = (M : Int) := by rw [hm, hM]
  have HS1 : Hid (wrap64 (m - a) = (i0 : Int)) := hid (by rw [wrap_small _ (by omega) (by omega)]; omega)
  have HS2 : Hid (wrap64 (b - m) = (j0 : Int)) := hid (by rw [wrap_small _ (by omega) (by omega)]; omega)
  have HT := hid hT
  subst hmM
  have hs1 := HS1.out
  have hs2 := HS2.out
  clear hw hA hB hN hNd hs ha hm hb hM hi0 hj0 hTl hT
  go_enter Try.func48, Try.ntmps48
  go_wp2
  go_loopg [10, 11] (i0 + j0 + 1) (fun kq v10 v11 w' => ∃ i j : Nat, v10 = .int .i64 (i : Int) ∧ v11 = .int .i64 (j : Int) ∧ Hid (i + j < kq ∧ 0 < i ∧ 0 < j ∧ i ≤ M ∧ M + j ≤ N) ∧ Hid (Ro w w' g M i j T))
  case atStart => exact ⟨i0, j0, (by first | rfl | exact congrArg (Value.int .i64) HS1.out), (by first | rfl | exact congrArg (Value.int .i64) HS2.out), hid ⟨by omega, HN.out.2.2.2.1, HN.out.2.2.2.2.1, HN.out.2.2.2.2.2, HN.out.1⟩, HR0⟩
  case round =>
    obtain ⟨i, j, rfl, rfl, HK, HR⟩ := hrel
    have hk := HK.out
    clear hs1 hs2
    cases gk with
    | zero => omega
    | succ k1 =>
      obtain ⟨X1, A1, B1, Y1, hrw, hA1, hB1, hX1, hT1⟩ := HR.out.ex
      have hbt := HR.out.bt
      have hlen : (X1 ++ (A1 ++ (B1 ++ Y1))).length = T.length := by rw [← hT1]; simp only [List.length_append]; omega
      obtain ⟨MI, hMI⟩ : ∃ MI : Int, ((M - i : Nat) : Int) = MI := ⟨_, rfl⟩
      have HMI : Hid (wrap64 ((M : Int) - (i : Int)) = MI) := hid (by have := HN.out; rw [wrap_small _ (by omega) (by omega)]; omega)
      by_cases ce : i = j
      · subst ce
        have cb : ((i : Int) != (i : Int)) = false := bne_self_eq_false _
        have hsr := swapRange cm X1 A1 [] B1 Y1 i c g wr (by simpa using hrw) hA1 hB1 N (by simp; omega) (by have := HN.out; simp only [List.nil_append]; omega) HN.out.2.2.1 MI (M : Int) (by omega) (by simp; omega)
        have HS : Hid (∀ w', Do wr w' g (X1 ++ (B1 ++ ([] ++ (A1 ++ Y1)))) → Do w w' g T) := hid fun w' h => ⟨by rw [← hT1]; simpa using h.row, hbt.trans h.bt⟩
        clear hk hrw hA1 hB1 hX1 hT1 hbt hlen hMI
        have hmi := HMI.out
        go_wp2_with (first | (go_at_call 49; (with_reducible refine hsr.mono ?_); rintro e w2 ⟨rfl, hD⟩; have HD := hid (HS.out w2 hD); clear hD))
        exact ⟨rfl, .tuple #[], by simp [results, Try.results48], rfl, by rw [HT.out]; exact HD.out⟩
      · have cb : ((i : Int) != (j : Int)) = true := by simp; omega
        by_cases cg : j < i
        · have cd : decide (j < i) = true := decide_eq_true cg
          have eA : A1 = A1.take j ++ A1.drop j := (List.take_append_drop j A1).symm
          have l1 : (A1.take j).length = j := by rw [List.length_take]; omega
          have l2 : (A1.drop j).length = i - j := by rw [List.length_drop]; omega
          have e1 : X1 ++ (A1 ++ (B1 ++ Y1)) = X1 ++ (A1.take j ++ (A1.drop j ++ (B1 ++ Y1))) := by
            conv => lhs; rw [eA]
            rw [List.append_assoc]
          have hsr := swapRange cm X1 (A1.take j) (A1.drop j) B1 Y1 j c g wr (by rw [← e1]; exact hrw) l1 hB1 N (by omega) (by rw [← e1]; have := HN.out; omega) HN.out.2.2.1 MI (M : Int) (by omega) (by omega)
          have HS : Hid (∀ w', Do wr w' g (X1 ++ (B1 ++ (A1.drop j ++ (A1.take j ++ Y1)))) → Ro w w' g M (i - j) j T) := hid fun w' h => ⟨⟨X1 ++ B1, A1.drop j, A1.take j, Y1, by rw [List.append_assoc]; exact h.row, l2, l1, by rw [List.length_append]; omega, by
            rw [← hT1, List.append_assoc]
            congr 2
            rw [← List.append_assoc, ← eA]⟩, hbt.trans h.bt⟩
          have HIJ : Hid (wrap64 ((i : Int) - (j : Int)) = ((i - j : Nat) : Int)) := hid (by have := HN.out; rw [wrap_small _ (by omega) (by omega)]; omega)
          clear hrw hA1 hB1 hX1 hT1 hbt hlen hMI eA l1 l2 e1
          have hmi := HMI.out
          go_wp2_with (first | (go_at_call 49; (with_reducible refine hsr.mono ?_); rintro e w2 ⟨rfl, hD⟩; have HD := hid (HS.out w2 hD); clear hD))
          go_roundg k1
          case measure => omega
          case rel => exact ⟨i - j, j, congrArg (Value.int .i64) HIJ.out, rfl, hid ⟨by omega, by omega, by omega, by omega, by omega⟩, HD⟩
        · have cd : decide (j < i) = false := decide_eq_false cg
          have eB : B1 = B1.take (j - i) ++ B1.drop (j - i) := (List.take_append_drop _ B1).symm
          have l1 : (B1.take (j - i)).length = j - i := by rw [List.length_take]; omega
          have l2 : (B1.drop (j - i)).length = i := by rw [List.length_drop]; omega
          have e1 : X1 ++ (A1 ++ (B1 ++ Y1)) = X1 ++ (A1 ++ (B1.take (j - i) ++ (B1.drop (j - i) ++ Y1))) := by
            conv => lhs; rw [eB]
            rw [List.append_assoc]
          obtain ⟨MJ, hMJ⟩ : ∃ MJ : Int, ((M + j - i : Nat) : Int) = MJ := ⟨_, rfl⟩
          have HM1 : Hid (wrap64 ((M : Int) + (j : Int)) = (M : Int) + (j : Int)) := hid (by have := HN.out; exact wrap_small _ (by omega) (by omega))
          have HM2 : Hid (wrap64 ((M : Int) + (j : Int) - (i : Int)) = MJ) := hid (by have := HN.out; rw [wrap_small _ (by omega) (by omega)]; omega)
          have hsr := swapRange cm X1 A1 (B1.take (j - i)) (B1.drop (j - i)) Y1 i c g wr (by rw [← e1]; exact hrw) hA1 l2 N (by omega) (by rw [← e1]; have := HN.out; omega) HN.out.2.2.1 MI MJ (by omega) (by omega)
          have HS : Hid (∀ w', Do wr w' g (X1 ++ (B1.drop (j - i) ++ (B1.take (j - i) ++ (A1 ++ Y1)))) → Ro w w' g M i (j - i) T) := hid fun w' h => ⟨⟨X1, B1.drop (j - i), B1.take (j - i), A1 ++ Y1, h.row, l2, l1, by omega, by
            rw [← hT1]
            congr 1
            rw [← List.append_assoc, ← eB]⟩, hbt.trans h.bt⟩
          have HIJ : Hid (wrap64 ((j : Int) - (i : Int)) = ((j - i : Nat) : Int)) := hid (by have := HN.out; rw [wrap_small _ (by omega) (by omega)]; omega)
          clear hrw hA1 hB1 hX1 hT1 hbt hlen hMI eB l1 l2 e1 hMJ
          have hmj := HM1.out
          have hmj2 := HM2.out
          have hmi := HMI.out
          go_wp2_with (first | (go_at_call 49; (with_reducible refine hsr.mono ?_); rintro e w2 ⟨rfl, hD⟩; have HD := hid (HS.out w2 hD); clear hD))
          go_roundg k1
          case measure => omega
          case rel => exact ⟨i, j - i, rfl, congrArg (Value.int .i64) HIJ.out, hid ⟨by omega, by omega, by omega, by omega, by omega⟩, HD⟩
end Go.Proofs.Ytebfnmhpmgjoiaa.Fl
