/- sorting floats: stableCmp, at a row shorter than one block. -/
import Derived.Test.YtebfnmhpmgjoiaaSh
namespace Go.Proofs.Ytebfnmhpmgjoiaa.Fl
open Go.RowKit FT SM
set_option linter.unusedVariables false
set_option linter.unusedSimpArgs false
set_option maxHeartbeats 4000000 in
theorem stable_small (l Z : List Nat) (c g : Nat) (w : World) (hw : Rw w g (l ++ Z)) (hl : l.length < 20) (nn : Int) (hn : nn = (l.length : Nat)) :
    Calls Try.prog 45 #[.slice (some ⟨g, 0, none⟩) l.length c, .int .i64 nn, .func (.func 43) #[] #[]] w fun e w' => e = .returned (.tuple #[]) ∧ Srt w w' g [] l Z := by
  have b1 : decide (20 ≤ nn) = false := decide_eq_false (by omega)
  have b2 : decide (20 < nn) = false := decide_eq_false (by omega)
  have INS := hid (insertionSort [] l Z l.length c g w hw (by simp) (by simp) (by omega) 0 nn rfl (by simp; omega))
  clear hw hl hn
  go_enter Try.func45, Try.ntmps45
  go_wp2
  go_loopg [7, 8] 1 (fun kq v7 v8 w' => v7 = .int .i64 0 ∧ v8 = .int .i64 20 ∧ w' = w)
  case atStart => exact ⟨rfl, rfl, rfl⟩
  case round =>
    obtain ⟨rfl, rfl, rfl⟩ := hrel
    go_wp2_with (first | (go_at_call 46; (with_reducible refine INS.out.mono ?_); rintro e1 wA ⟨rfl, hD⟩; have S1 := hid hD; clear hD))
    go_loopg [6] 1 (fun kq v6 w' => v6 = .int .i64 20 ∧ w' = wA)
    case atStart => exact ⟨rfl, rfl⟩
    case round =>
      obtain ⟨rfl, rfl⟩ := hrel
      go_wp2
      exact ⟨rfl, .tuple #[], by simp [results, Try.results45], rfl, S1.out⟩
set_option maxHeartbeats 8000000 in
theorem stable_big (A B Z : List Nat) (N c g : Nat) (w : World) (hw : Rw w g (A ++ (B ++ Z))) (hA : A.length = 20) (hB : B.length ≤ 20) (hN : N = 20 + B.length) (nn : Int) (hn : nn = (N : Nat)) :
    Calls Try.prog 45 #[.slice (some ⟨g, 0, none⟩) N c, .int .i64 nn, .func (.func 43) #[] #[]] w fun e w' => e = .returned (.tuple #[]) ∧ Srt w w' g [] (A ++ B) Z := by
  obtain ⟨x4, hx4⟩ : ∃ x, decide (B.length = 20) = x := ⟨_, rfl⟩
  obtain ⟨x2, hx2⟩ : ∃ x, decide (0 < B.length) = x := ⟨_, rfl⟩
  have b1 : decide (20 ≤ nn) = true := decide_eq_true (by omega)
  have b2 : decide (20 < nn) = x2 := by rw [← hx2, decide_eq_decide]; omega
  have b3 : decide (40 ≤ nn) = x4 := by rw [← hx4, decide_eq_decide]; omega
  have b4 : decide (60 ≤ nn) = false := decide_eq_false (by omega)
  have b5 : decide (80 ≤ nn) = false := decide_eq_false (by omega)
  have b6 : decide (40 < nn) = false := decide_eq_false (by omega)
  have b7 : decide (60 < nn) = false := decide_eq_false (by omega)
  have HX : Hid (x4 = true → x2 = true) := hid (by rw [← hx4, ← hx2, decide_eq_true_iff, decide_eq_true_iff]; omega)
  have INS1 : Hid (Calls Try.prog 46 #[.slice (some ⟨g, 0, none⟩) N c, .int .i64 0, .int .i64 20, .func (.func 43) #[] #[]] w fun e w' => e = .returned (.tuple #[]) ∧ St1 w w' g A B Z) := hid (by
    refine (insertionSort [] A (B ++ Z) N c g w hw (by simp; omega) (by simp; omega) (by omega) 0 20 rfl (by simp; omega)).mono ?_
    rintro e1 W ⟨rfl, hD⟩
    exact ⟨rfl, St1.of hD⟩)
  have INS2 : Hid (∀ W, St1 w W g A B Z → Calls Try.prog 46 #[.slice (some ⟨g, 0, none⟩) N c, .int .i64 20, .int .i64 nn, .func (.func 43) #[] #[]] W fun e w' => e = .returned (.tuple #[]) ∧ St2 w w' g A B Z) := hid fun W h => ins2 h N c hA hN (by omega) nn hn
  have INS3 : Hid (x4 = true → ∀ W, St1 w W g A B Z → Calls Try.prog 46 #[.slice (some ⟨g, 0, none⟩) N c, .int .i64 20, .int .i64 40, .func (.func 43) #[] #[]] W fun e w' => e = .returned (.tuple #[]) ∧ St2 w w' g A B Z) := hid fun h4 W h => by
    rw [← hx4, decide_eq_true_iff] at h4
    exact ins2 h N c hA hN (by omega) 40 (by omega)
  have INS4 : Hid (x4 = true → ∀ W, St2 w W g A B Z → Calls Try.prog 46 #[.slice (some ⟨g, 0, none⟩) N c, .int .i64 40, .int .i64 nn, .func (.func 43) #[] #[]] W fun e w' => e = .returned (.tuple #[]) ∧ St2 w w' g A B Z) := hid fun h4 W h => by
    rw [← hx4, decide_eq_true_iff] at h4
    exact ins4 h N c hA h4 (by omega) nn hn
  have SYM1 : Hid (x2 = true → ∀ W, St2 w W g A B Z → Calls Try.prog 47 #[.slice (some ⟨g, 0, none⟩) N c, .int .i64 0, .int .i64 20, .int .i64 nn, .func (.func 43) #[] #[]] W fun e w' => e = .returned (.tuple #[]) ∧ Srt w w' g [] (A ++ B) Z) := hid fun h2 W h => by
    rw [← hx2, decide_eq_true_iff] at h2
    exact sym1 h N c hA h2 hN (by omega) nn hn
  have SYM2 : Hid (x4 = true → ∀ W, St2 w W g A B Z → Calls Try.prog 47 #[.slice (some ⟨g, 0, none⟩) N c, .int .i64 0, .int .i64 20, .int .i64 40, .func (.func 43) #[] #[]] W fun e w' => e = .returned (.tuple #[]) ∧ Srt w w' g [] (A ++ B) Z) := hid fun h4 W h => by
    rw [← hx4, decide_eq_true_iff] at h4
    exact sym1 h N c hA (by omega) hN (by omega) 40 (by omega)
  have DONE : Hid (x2 = false → ∀ W, St2 w W g A B Z → Srt w W g [] (A ++ B) Z) := hid fun h2 W h => by
    rw [← hx2, decide_eq_false_iff_not] at h2
    exact h.done (by omega)
  clear hw hA hB hN hn hx4 hx2
  go_enter Try.func45, Try.ntmps45
  go_wp2
  go_loopg [7, 8] 3 (fun kq v7 v8 w' => (v7 = .int .i64 0 ∧ v8 = .int .i64 20 ∧ Hid (w' = w) ∧ kq = 3) ∨ (v7 = .int .i64 20 ∧ v8 = .int .i64 40 ∧ Hid (St1 w w' g A B Z) ∧ kq = 2) ∨ (v7 = .int .i64 40 ∧ v8 = .int .i64 60 ∧ Hid (St2 w w' g A B Z ∧ x4 = true) ∧ kq = 1))
  case atStart => exact Or.inl ⟨rfl, rfl, hid rfl, rfl⟩
  case round =>
    rcases hrel with ⟨rfl, rfl, hW, hk⟩ | ⟨rfl, rfl, hW, hk⟩ | ⟨rfl, rfl, hW, hk⟩
    · obtain rfl := hW.out
      subst hk
      go_wp2_with (first | (go_at_call 46; (with_reducible refine INS1.out.mono ?_); rintro e1 wA ⟨rfl, hD⟩; have S1 := hid hD; clear hD))
      go_roundg 2
      case measure => omega
      case rel => exact Or.inr (Or.inl ⟨rfl, rfl, S1, rfl⟩)
    · subst hk
      cases x4
      · go_wp2_with (first | (go_at_call 46; (with_reducible refine (INS2.out _ hW.out).mono ?_); rintro e1 wA ⟨rfl, hD⟩; have S1 := hid hD; clear hD))
        go_loopg [6] 2 (fun kq v6 w' => (v6 = .int .i64 20 ∧ Hid (w' = wA) ∧ kq = 2) ∨ (v6 = .int .i64 40 ∧ Hid (Srt w w' g [] (A ++ B) Z) ∧ kq = 1))
        case atStart => exact Or.inl ⟨rfl, hid rfl, rfl⟩
        case round =>
          rcases hrel with ⟨rfl, hV, hk⟩ | ⟨rfl, hV, hk⟩
          · obtain rfl := hV.out
            subst hk
            cases x2
            · have HD := hid (DONE.out rfl _ S1.out)
              go_wp2
              exact ⟨rfl, .tuple #[], by simp [results, Try.results45], rfl, HD.out⟩
            · go_wp2
              go_loopg [7, 8] 1 (fun kq v7 v8 w' => v7 = .int .i64 0 ∧ v8 = .int .i64 40 ∧ Hid (St2 w w' g A B Z))
              case atStart => exact ⟨rfl, rfl, S1⟩
              case round =>
                obtain ⟨rfl, rfl, hU⟩ := hrel
                go_wp2_with (first | (go_at_call 47; (with_reducible refine (SYM1.out (by trivial) _ hU.out).mono ?_); rintro e1 wB ⟨rfl, hD⟩; have S2 := hid hD; clear hD))
                go_roundg 1
                case measure => omega
                case rel => exact Or.inr ⟨rfl, S2, rfl⟩
          · go_wp2
            exact ⟨rfl, .tuple #[], by simp [results, Try.results45], rfl, hV.out⟩
      · go_wp2_with (first | (go_at_call 46; (with_reducible refine (INS3.out (by trivial) _ hW.out).mono ?_); rintro e1 wA ⟨rfl, hD⟩; have S1 := hid hD; clear hD))
        go_roundg 1
        case measure => omega
        case rel => exact Or.inr (Or.inr ⟨rfl, rfl, hid ⟨S1.out, by trivial⟩, rfl⟩)
    · have hx := hW.out.2
      subst hx
      have hx2 := HX.out rfl
      subst hx2
      have H2 := hid hW.out.1
      go_wp2_with (first | (go_at_call 46; (with_reducible refine (INS4.out (by trivial) _ H2.out).mono ?_); rintro e1 wA ⟨rfl, hD⟩; have S1 := hid hD; clear hD))
      go_loopg [6] 2 (fun kq v6 w' => (v6 = .int .i64 20 ∧ Hid (w' = wA) ∧ kq = 2) ∨ (v6 = .int .i64 40 ∧ Hid (Srt w w' g [] (A ++ B) Z) ∧ kq = 1))
      case atStart => exact Or.inl ⟨rfl, hid rfl, rfl⟩
      case round =>
        rcases hrel with ⟨rfl, hV, hk⟩ | ⟨rfl, hV, hk⟩
        · obtain rfl := hV.out
          subst hk
          go_wp2
          go_loopg [7, 8] 2 (fun kq v7 v8 w' => (v7 = .int .i64 0 ∧ v8 = .int .i64 40 ∧ Hid (St2 w w' g A B Z) ∧ kq = 2) ∨ (v7 = .int .i64 40 ∧ v8 = .int .i64 80 ∧ Hid (Srt w w' g [] (A ++ B) Z) ∧ kq = 1))
          case atStart => exact Or.inl ⟨rfl, rfl, S1, rfl⟩
          case round =>
            rcases hrel with ⟨rfl, rfl, hU, hk⟩ | ⟨rfl, rfl, hU, hk⟩
            · subst hk
              go_wp2_with (first | (go_at_call 47; (with_reducible refine (SYM2.out (by trivial) _ hU.out).mono ?_); rintro e1 wB ⟨rfl, hD⟩; have S2 := hid hD; clear hD))
              go_roundg 1
              case measure => omega
              case rel => exact Or.inr ⟨rfl, rfl, S2, rfl⟩
            · go_wp2
              go_roundg 1
              case measure => omega
              case rel => exact Or.inr ⟨rfl, hU, rfl⟩
        · go_wp2
          exact ⟨rfl, .tuple #[], by simp [results, Try.results45], rfl, hV.out⟩
/-- stableCmpFunc at up to forty floats. -/
theorem stable (l Z : List Nat) (c g : Nat) (w : World) (hw : Rw w g (l ++ Z)) (hl : l.length ≤ 40) (nn : Int) (hn : nn = (l.length : Nat)) :
    Calls Try.prog 45 #[.slice (some ⟨g, 0, none⟩) l.length c, .int .i64 nn, .func (.func 43) #[] #[]] w fun e w' => e = .returned (.tuple #[]) ∧ Srt w w' g [] l Z := by
  rcases Nat.lt_or_ge l.length 20 with h | h
  · exact stable_small l Z c g w hw h nn hn
  · have e := List.take_append_drop 20 l
    have := stable_big (l.take 20) (l.drop 20) Z l.length c g w (by rw [← List.append_assoc, e]; exact hw) (by rw [List.length_take]; omega) (by rw [List.length_drop]; omega) (by rw [List.length_drop]; omega) nn hn
    rw [e] at this
    exact this
end Go.Proofs.Ytebfnmhpmgjoiaa.Fl
