/- Words: the reader: Text. -/
import Derived.Test.YtlojhiacaleokaaRdr2
import Derived.Test.YtlojhiacaleokaaPu2
namespace Go.Proofs.Ytlojhiacaleokaa.PWD
open Go.RowKit Go.Proofs.YtlojhiacaleokaaW.PrintWords Go.Proofs.YtlojhiacaleokaaW.PrintLast Go.Proofs.YtlojhiacaleokaaW.PrintMore
set_option linter.unusedVariables false
set_option linter.unusedSimpArgs false
theorem need_nat2 (n : Nat) (hn : n ≤ 4611686018427387904) : words_Need.f (n : Int) = some (((n + 7) / 8 : Nat) : Int) := by
  unfold words_Need.f
  by_cases c : (n : Int) < 1
  · rw [if_pos c]; congr 1; omega
  · rw [if_neg c]
    have e1 : wrap64 ((n : Int) - 1) = n - 1 := wrap64_in (by omega) (by omega)
    rw [e1, Int.tdiv_eq_ediv_of_nonneg (by omega)]
    have e2 : wrap64 (((n : Int) - 1) / 8) = ((n : Int) - 1) / 8 := wrap64_in (by omega) (by omega)
    rw [e2, wrap64_in (by omega) (by omega)]
    congr 1; omega
theorem nv_nat (L : List Int) (bad : Bool) (hL : ∀ x ∈ L, 0 ≤ x) : ∃ n : Nat, nv L bad = (n : Int) ∧ n ≤ 4611686018427387904 := by
  unfold nv
  split
  · exact ⟨0, rfl, by omega⟩
  · split
    · exact ⟨0, rfl, by omega⟩
    · rename_i x t
      have := hL x (by simp)
      split
      · exact ⟨0, rfl, by omega⟩
      · exact ⟨x.toNat, by omega, by omega⟩
set_option maxHeartbeats 2000000 in
theorem rtext_1 (base g : Nat) (L L1 : List Int) (bad b1 : Bool) (n limit : Int) (w : World) (hd : decide (limit < n) = true)
    (hN : Calls Try.prog 19 #[.pointer (some ⟨g, 0, none⟩)] w fun e w' => e = .returned (.int .i64 n) ∧ Rd w' base g L1 b1 ∧ Below base w w') :
    Calls Try.prog 18 #[.pointer (some ⟨g, 0, none⟩), .int .i64 limit] w fun e w' => e = .returned (.string ⟨#[]⟩) ∧ Rd w' base g L1 true ∧ Below base w w' := by
  have HN := Aside0.mk hN
  clear hN
  go_enter Try.func18, Try.ntmps18
  go_wp2_with (first | (go_at_call 19; (with_reducible refine HN.out.mono ?_); rintro e w1 ⟨rfl, hr1, hb1⟩) | (go_at_call 24; (with_reducible refine (spoil_calls base g L1 b1 _ hr1).mono ?_); rintro e w2 ⟨rfl, hr2, hb2⟩) | (go_at_call 20; (with_reducible refine (bad_calls base g L1 true _ hr2).mono ?_); rintro e w3 ⟨rfl, ⟨nd, rfl⟩⟩))
  go_ret
  exact ⟨rfl, Rd_drewN hr2 _, pw_below_drewN (hb1.trans hb2) _⟩
set_option maxHeartbeats 2000000 in
theorem rtext_2 (base g : Nat) (L L1 : List Int) (n limit : Int) (w : World) (hd : decide (limit < n) = false)
    (hN : Calls Try.prog 19 #[.pointer (some ⟨g, 0, none⟩)] w fun e w' => e = .returned (.int .i64 n) ∧ Rd w' base g L1 true ∧ Below base w w') :
    Calls Try.prog 18 #[.pointer (some ⟨g, 0, none⟩), .int .i64 limit] w fun e w' => e = .returned (.string ⟨#[]⟩) ∧ Rd w' base g L1 true ∧ Below base w w' := by
  have HN := Aside0.mk hN
  clear hN
  go_enter Try.func18, Try.ntmps18
  go_wp2_with (first | (go_at_call 19; (with_reducible refine HN.out.mono ?_); rintro e w1 ⟨rfl, hr1, hb1⟩) | (go_at_call 20; (with_reducible refine (bad_calls base g L1 true _ hr1).mono ?_); rintro e w3 ⟨rfl, ⟨nd, rfl⟩⟩))
  go_ret
  exact ⟨rfl, Rd_drewN hr1 _, pw_below_drewN hb1 _⟩
set_option maxHeartbeats 2000000 in
theorem rtext_3 (base g : Nat) (L1 : List Int) (n m : Nat) (limit : Int) (w : World) (hd : decide (limit < (n : Int)) = false) (hm : words_Need.f (n : Int) = some (m : Int)) (hl : L1.length < m)
    (hN : Calls Try.prog 19 #[.pointer (some ⟨g, 0, none⟩)] w fun e w' => e = .returned (.int .i64 (n : Int)) ∧ Rd w' base g L1 false ∧ Below base w w') :
    Calls Try.prog 18 #[.pointer (some ⟨g, 0, none⟩), .int .i64 limit] w fun e w' => e = .returned (.string ⟨#[]⟩) ∧ Rd w' base g L1 true ∧ Below base w w' := by
  have HN := Aside0.mk hN
  have HM := Aside0.mk hm
  have HL := Aside0.mk hl
  have HU : ∀ W : World, Aside0 (Calls Try.prog 7 #[.slice none 0 0, .int .i64 (n : Int)] W fun e w' => ∃ v0 : Value, e = .returned (.tuple #[v0, .bool false]) ∧ Kd.R (Kd.int .u8) 5 w' W.heap.size (fun _ => True) v0 [] ∧ Below W.heap.size W w') := fun W => ⟨unpack_none none 0 [] (n : Int) (m : Int) W hm (Or.inr (by simp; omega))⟩
  clear hN hm hl
  go_enter Try.func18, Try.ntmps18
  go_wp2_with (first | (go_at_call 19; (with_reducible refine HN.out.mono ?_); rintro e w1 ⟨rfl, hr1, hb1⟩) | (go_at_call 20; first | ((with_reducible refine (bad_calls base g L1 true _ hr4).mono ?_); rintro e w5 ⟨rfl, ⟨nd5, rfl⟩⟩) | ((with_reducible refine (bad_calls base g L1 false _ hr1).mono ?_); rintro e w2 ⟨rfl, ⟨nd, rfl⟩⟩)) | (go_at_call 13; (with_reducible refine (words_Need.calls (n : Int) (m : Int) _ HM.out).mono ?_); rintro e w3 ⟨rfl, ⟨nd3, rfl⟩⟩) | (go_at_call 25; (with_reducible refine (take_over base g L1 (m : Int) _ (by have := HL.out; omega) (Rd_drewN hr1 _)).mono ?_); rintro e w4 ⟨rfl, hr3, hb3⟩) | (go_at_call 7; (with_reducible refine (HU _).out.mono ?_); rintro e w6 ⟨v0, rfl, hR, hb4⟩; have hr4 := Rd_below hr3 hb4) | (go_at_call 24; (with_reducible refine (spoil_calls base g L1 true _ (Rd_drewN hr4 _)).mono ?_); rintro e w7 ⟨rfl, hr5, hb5⟩))
  go_ret
  exact ⟨rfl, hr5, (pw_below_drewN (((pw_below_drewN hb1 _).trans hb3).trans (hb4.mono (Rd_size hr3))) _).trans hb5⟩
set_option maxHeartbeats 4000000 in
theorem rtext_4 (base g : Nat) (L1 : List Int) (n m : Nat) (limit : Int) (o : List Int) (is : Bool) (w : World) (hd : decide (limit < (n : Int)) = false) (hm : words_Need.f (n : Int) = some (m : Int)) (hl : m ≤ L1.length) (k : Nat) (hu : words_Unpack.f k (L1.take m) (n : Int) = some (o, is))
    (hN : Calls Try.prog 19 #[.pointer (some ⟨g, 0, none⟩)] w fun e w' => e = .returned (.int .i64 (n : Int)) ∧ Rd w' base g L1 false ∧ Below base w w') :
    Calls Try.prog 18 #[.pointer (some ⟨g, 0, none⟩), .int .i64 limit] w fun e w' => e = .returned (.string (if is = true then strOfNums o else ⟨#[]⟩)) ∧ Rd w' base g (L1.drop m) (!is) ∧ Below base w w' := by
  have HN := Aside0.mk hN
  have HM := Aside0.mk hm
  have HL := Aside0.mk hl
  have HU : ∀ (A : Option Addr) (c : Nat) (W : World), m ≤ c → Kd.C (Kd.int .u64) W A m (L1.take m) → Aside0 (Calls Try.prog 7 #[.slice A m c, .int .i64 (n : Int)] W fun e w' => ∃ v0 : Value, e = .returned (.tuple #[v0, .bool is]) ∧ Kd.R (Kd.int .u8) 5 w' W.heap.size (fun _ => True) v0 o ∧ Below W.heap.size W w') := by
    intro A c W hc hC
    have e : (L1.take m).length = m := by rw [List.length_take, Nat.min_eq_left hl]
    have := words_Unpack.calls k A c (L1.take m) (n : Int) o is W (by rw [e]; exact hC) (by rw [e]; exact hc) hu
    rw [e] at this
    exact ⟨this⟩
  clear hN hm hl hu
  cases is with
  | false =>
    go_enter Try.func18, Try.ntmps18
    go_wp2_with (first | (go_at_call 19; (with_reducible refine HN.out.mono ?_); rintro e w1 ⟨rfl, hr1, hb1⟩) | (go_at_call 20; first | ((with_reducible refine (bad_calls base g (L1.drop m) false _ hr4).mono ?_); rintro e w5 ⟨rfl, ⟨nd5, rfl⟩⟩) | ((with_reducible refine (bad_calls base g L1 false _ hr1).mono ?_); rintro e w2 ⟨rfl, ⟨nd, rfl⟩⟩)) | (go_at_call 13; (with_reducible refine (words_Need.calls (n : Int) (m : Int) _ HM.out).mono ?_); rintro e w3 ⟨rfl, ⟨nd3, rfl⟩⟩) | (go_at_call 25; (with_reducible refine (take_ok base g L1 m _ HL.out (Rd_drewN hr1 _)).mono ?_); rintro e w4 ⟨A, c, rfl, hc, hC, hr3, hb3⟩) | (go_at_call 7; (with_reducible refine (HU A c _ hc hC).out.mono ?_); rintro e w6 ⟨v0, rfl, hR, hb4⟩; have hr4 := Rd_below hr3 hb4) | (go_at_call 24; (with_reducible refine (spoil_calls base g (L1.drop m) false _ (Rd_drewN hr4 _)).mono ?_); rintro e w7 ⟨rfl, hr5, hb5⟩))
    go_ret
    exact ⟨rfl, hr5, (pw_below_drewN (((pw_below_drewN hb1 _).trans hb3).trans (hb4.mono (Rd_size hr3))) _).trans hb5⟩
  | true =>
    go_enter Try.func18, Try.ntmps18
    go_wp2_with (first | (go_at_call 19; (with_reducible refine HN.out.mono ?_); rintro e w1 ⟨rfl, hr1, hb1⟩) | (go_at_call 20; first | ((with_reducible refine (bad_calls base g (L1.drop m) false _ hr4).mono ?_); rintro e w5 ⟨rfl, ⟨nd5, rfl⟩⟩) | ((with_reducible refine (bad_calls base g L1 false _ hr1).mono ?_); rintro e w2 ⟨rfl, ⟨nd, rfl⟩⟩)) | (go_at_call 13; (with_reducible refine (words_Need.calls (n : Int) (m : Int) _ HM.out).mono ?_); rintro e w3 ⟨rfl, ⟨nd3, rfl⟩⟩) | (go_at_call 25; (with_reducible refine (take_ok base g L1 m _ HL.out (Rd_drewN hr1 _)).mono ?_); rintro e w4 ⟨A, c, rfl, hc, hC, hr3, hb3⟩) | (go_at_call 7; (with_reducible refine (HU A c _ hc hC).out.mono ?_); rintro e w6 ⟨v0, rfl, hR, hb4⟩; have hr4 := Rd_below hr3 hb4; obtain ⟨Ao, co, rfl⟩ := Kd.R_slice hR; have hst := fun W : World => fun hq : Kd.C (Kd.int .u8) W Ao o.length o => Kd.C_string (P := Try.prog) (A := Ao) (c := co) Try.underlying22 Try.underlying5 Try.underlying9 hq; have hst1 := hst _ (Kd.C_drewN (Kd.R_reads' hR).2.2 0); have hst2 : ∀ q, (convert 22 9 (.slice Ao o.length co)).run Try.prog (w6.drewN q) = .ok (.string (strOfNums o)) (w6.drewN q) := fun q => hst _ (Kd.C_drewN (Kd.R_reads' hR).2.2 q)))
    go_ret
    exact ⟨rfl, Rd_drewN hr4 _, pw_below_drewN (((pw_below_drewN hb1 _).trans hb3).trans (hb4.mono (Rd_size hr3))) _⟩
/-! What Text answers, and what it leaves. -/
def tt (L : List Int) (bad : Bool) (limit : Int) : ByteArray × List Int × Bool :=
  if limit < nv L bad ∨ nb L bad = true then (⟨#[]⟩, nl L bad, true)
  else if (nl L bad).length < ((nv L bad).toNat + 7) / 8 then (⟨#[]⟩, nl L bad, true)
  else (if (unv ((nl L bad).take (((nv L bad).toNat + 7) / 8)) (nv L bad)).2 = true then strOfNums (unv ((nl L bad).take (((nv L bad).toNat + 7) / 8)) (nv L bad)).1 else ⟨#[]⟩, (nl L bad).drop (((nv L bad).toNat + 7) / 8), !(unv ((nl L bad).take (((nv L bad).toNat + 7) / 8)) (nv L bad)).2)
theorem rtext_calls (base g : Nat) (L : List Int) (bad : Bool) (limit : Int) (w : World) (hL : ∀ x ∈ L, 0 ≤ x) (h5 : L.length ≤ 62 ∨ limit ≤ 500) (HR : Rd w base g L bad) :
    Calls Try.prog 18 #[.pointer (some ⟨g, 0, none⟩), .int .i64 limit] w fun e w' => e = .returned (.string (tt L bad limit).1) ∧ Rd w' base g (tt L bad limit).2.1 (tt L bad limit).2.2 ∧ Below base w w' := by
  have hN := rnum_calls base g L bad w hL HR
  have hlen : (nl L bad).length ≤ L.length := by
    unfold nl
    split
    · exact Nat.le_refl _
    · rw [List.length_tail]; omega
  obtain ⟨n, en, hn⟩ := nv_nat L bad hL
  unfold tt
  rw [en] at hN ⊢
  rw [Int.toNat_natCast]
  by_cases c1 : limit < (n : Int)
  · rw [if_pos (Or.inl c1)]
    exact rtext_1 base g L (nl L bad) bad (nb L bad) n limit w (decide_eq_true c1) hN
  · by_cases c2 : nb L bad = true
    · rw [if_pos (Or.inr c2)]
      rw [c2] at hN
      exact rtext_2 base g L (nl L bad) n limit w (decide_eq_false c1) hN
    · rw [if_neg (fun h => h.elim c1 c2)]
      rw [Bool.eq_false_iff.mpr c2] at hN
      by_cases c3 : (nl L bad).length < (n + 7) / 8
      · rw [if_pos c3]
        exact rtext_3 base g (nl L bad) n ((n + 7) / 8) limit w (decide_eq_false c1) (need_nat2 n hn) c3 hN
      · rw [if_neg c3]
        have h500 : (n : Int) ≤ 500 := by omega
        have hu := unpack_ev ((nl L bad).take ((n + 7) / 8)) (n : Int) h500 502 (by omega)
        exact rtext_4 base g (nl L bad) n ((n + 7) / 8) limit (unv ((nl L bad).take ((n + 7) / 8)) (n : Int)).1 (unv ((nl L bad).take ((n + 7) / 8)) (n : Int)).2 w (decide_eq_false c1) (need_nat2 n hn) (by omega) 502 hu hN
end Go.Proofs.Ytlojhiacaleokaa.PWD
