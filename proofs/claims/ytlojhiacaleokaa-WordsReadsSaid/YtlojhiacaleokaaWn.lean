/- Words: a reader and a writer that are none; what Text answers in each case. -/
import Derived.Test.YtlojhiacaleokaaWb
namespace Go.Proofs.Ytlojhiacaleokaa.PWD
open Go.RowKit Go.Proofs.YtlojhiacaleokaaW.PrintWords Go.Proofs.YtlojhiacaleokaaW.PrintLast Go.Proofs.YtlojhiacaleokaaW.PrintMore
set_option linter.unusedVariables false
set_option linter.unusedSimpArgs false
theorem wnum_nil (n : Int) (w : World) :
    Calls Try.prog 15 #[.pointer none, .int .i64 n] w fun e w' => e = .returned (.tuple #[]) ∧ Drawn0 w w' := by
  go_enter Try.func15, Try.ntmps15
  go_wp2
  go_end0
  exact ⟨rfl, ⟨0, rfl⟩⟩
theorem wtext_nil (s : ByteArray) (w : World) :
    Calls Try.prog 14 #[.pointer none, .string s] w fun e w' => e = .returned (.tuple #[]) ∧ Drawn0 w w' := by
  go_enter Try.func14, Try.ntmps14
  go_wp2
  go_end0
  exact ⟨rfl, ⟨0, rfl⟩⟩
theorem wwords_nil (w : World) :
    Calls Try.prog 17 #[.pointer none] w fun e w' => e = .returned (.slice none 0 0) ∧ Drawn0 w w' := by
  go_enter Try.func17, Try.ntmps17
  go_wp2
  go_ret
  exact ⟨rfl, ⟨0, rfl⟩⟩
theorem rtake_nil (n : Int) (w : World) :
    Calls Try.prog 25 #[.pointer none, .int .i64 n] w fun e w' => e = .returned (.slice none 0 0) ∧ Drawn0 w w' := by
  go_enter Try.func25, Try.ntmps25
  go_wp2_with (first | (go_at_call 20; (with_reducible refine (bad_nil _).mono ?_); rintro e w1 ⟨rfl, ⟨nd, rfl⟩⟩) | (go_at_call 24; (with_reducible refine (spoil_nil _).mono ?_); rintro e w2 ⟨rfl, ⟨nd2, rfl⟩⟩))
  go_ret
  exact ⟨rfl, ⟨_, rfl⟩⟩
theorem rnum_none (w : World) :
    Calls Try.prog 19 #[.pointer none] w fun e w' => e = .returned (.int .i64 0) ∧ Drawn0 w w' := by
  go_enter Try.func19, Try.ntmps19
  go_wp2_with (first | (go_at_call 25; (with_reducible refine (rtake_nil 1 _).mono ?_); rintro e w1 ⟨rfl, ⟨nd, rfl⟩⟩))
  go_ret
  exact ⟨rfl, ⟨_, rfl⟩⟩
theorem left_none (w : World) :
    Calls Try.prog 21 #[.pointer none] w fun e w' => e = .returned (.int .i64 0) ∧ Drawn0 w w' := by
  go_enter Try.func21, Try.ntmps21
  go_wp2_with (first | (go_at_call 20; (with_reducible refine (bad_nil _).mono ?_); rintro e w1 ⟨rfl, ⟨nd, rfl⟩⟩))
  go_ret
  exact ⟨rfl, ⟨_, rfl⟩⟩
theorem rtext_none (w : World) :
    Calls Try.prog 18 #[.pointer none, .int .i64 9] w fun e w' => e = .returned (.string ⟨#[]⟩) ∧ Drawn0 w w' := by
  go_enter Try.func18, Try.ntmps18
  go_wp2_with (first | (go_at_call 19; (with_reducible refine (rnum_none _).mono ?_); rintro e w1 ⟨rfl, ⟨nd, rfl⟩⟩) | (go_at_call 20; (with_reducible refine (bad_nil _).mono ?_); rintro e w2 ⟨rfl, ⟨nd2, rfl⟩⟩))
  go_ret
  exact ⟨rfl, ⟨_, rfl⟩⟩
theorem tt_bad (L : List Int) (a : Int) (h : 0 ≤ a) : tt L true a = (⟨#[]⟩, L, true) := by
  unfold tt nb nl; simp
theorem tt_nil (a : Int) (h : 0 ≤ a) : tt [] false a = (⟨#[]⟩, [], true) := by
  unfold tt nb nl; simp
theorem tt_no (n : Nat) (t : List Int) (a : Int) (h : 0 ≤ a) (hc : a < (n : Int) ∨ t.length < (n + 7) / 8) : tt ((n : Int) :: t) false a = (⟨#[]⟩, t, true) := by
  have e2 : nl ((n : Int) :: t) false = t := by simp [nl]
  unfold tt
  rw [e2]
  by_cases c : 4611686018427387904 < (n : Int)
  · have e3 : nb ((n : Int) :: t) false = true := by simp [nb]; omega
    rw [if_pos (Or.inr e3)]
  · have e1 : nv ((n : Int) :: t) false = n := by simp [nv]; omega
    have e3 : nb ((n : Int) :: t) false = false := by simp [nb]; omega
    rw [e1, e3, Int.toNat_natCast]
    by_cases c1 : a < (n : Int)
    · rw [if_pos (Or.inl c1)]
    · have c2 : t.length < (n + 7) / 8 := hc.resolve_left c1
      rw [if_neg (by rintro (h | h); exact c1 h; cases h), if_pos c2]
theorem tt_yes (n : Nat) (t : List Int) (a : Int) (h1 : (n : Int) ≤ a) (h2 : (n : Int) ≤ 4611686018427387904) (h3 : (n + 7) / 8 ≤ t.length) : tt ((n : Int) :: t) false a = (if (unv (t.take ((n + 7) / 8)) (n : Int)).2 = true then strOfNums (unv (t.take ((n + 7) / 8)) (n : Int)).1 else ⟨#[]⟩, t.drop ((n + 7) / 8), !(unv (t.take ((n + 7) / 8)) (n : Int)).2) := by
  have e2 : nl ((n : Int) :: t) false = t := by simp [nl]
  have e1 : nv ((n : Int) :: t) false = n := by simp [nv]; omega
  have e3 : nb ((n : Int) :: t) false = false := by simp [nb]; omega
  unfold tt
  rw [e2, e1, e3, Int.toNat_natCast, if_neg (by rintro (h | h); omega; cases h), if_neg (by omega)]
end Go.Proofs.Ytlojhiacaleokaa.PWD
