/- palloc: Taken.Take. -/
import Derived.Test.YtlojhiacaleokaaDoorPq
namespace Go.Proofs.YtlojhiacaleokaaDoor.Pa
open Go.RowKit Go.Proofs.YtlojhiacaleokaaDoorW.PrintWords Go.Proofs.YtlojhiacaleokaaDoorW.PrintLast Go.Proofs.YtlojhiacaleokaaDoorW.PrintMore
set_option linter.unusedVariables false
set_option linter.unusedSimpArgs false
/-- What a take leaves: nothing where all are used, or the least free page. -/
def TakeIs (n : Nat) (L : List Nat) (v : Value) (L' : List Nat) : Prop := (L.length = n ∧ v = .tuple #[.int .i64 0, .bool false] ∧ L' = L) ∨ (L.length < n ∧ ∃ m : Nat, Mex L m ∧ m ≤ n ∧ v = .tuple #[.int .i64 m, .bool true] ∧ L' = insL L m)
theorem TakeIs.same {n : Nat} {L : List Nat} {v v' : Value} {L1 L2 : List Nat} (h : TakeIs n L v L1) (k : TakeIs n L v' L2) : v = v' ∧ L1 = L2 := by
  rcases h with ⟨h1, rfl, rfl⟩ | ⟨h1, m, hm, _, rfl, rfl⟩ <;> rcases k with ⟨k1, rfl, rfl⟩ | ⟨k1, m', km, _, rfl, rfl⟩
  · exact ⟨rfl, rfl⟩
  · omega
  · omega
  · rw [hm.unique km]; exact ⟨rfl, rfl⟩
theorem PS.take {w : World} {b g n : Nat} {L : List Nat} (h : PS w b g n L) (hT : Tz.Tb w) :
    Calls Tryd.prog 10 #[.pointer (some ⟨b, 0, none⟩)] w fun e w' => ∃ v L', e = .returned v ∧ TakeIs n L v L' ∧ PS w' b g n L' ∧ Fr b g w w' := by
  have hl := h.len
  by_cases c : L.length = n
  · refine (take_none h c).mono ?_
    rintro e w' ⟨rfl, rfl⟩
    exact ⟨_, L, rfl, Or.inl ⟨c, rfl, rfl⟩, h, Fr.refl _ _ _⟩
  · refine (take_ h hT (by omega)).mono ?_
    rintro e w' ⟨m, rfl, hm, hmn, hP, hF⟩
    exact ⟨_, _, rfl, Or.inr ⟨by omega, m, hm, hmn, rfl, rfl⟩, hP, hF⟩
theorem hasL_nat (L : List Nat) (i : Nat) : hasL L (i : Int) = decide (i ∈ L) := by unfold hasL; rw [Int.toNat_natCast]
set_option maxHeartbeats 2000000 in
theorem TS.take {w : World} {S : Nat → Prop} {t n : Nat} {L : List Nat} (h : TS w S t n L) (hS : ∀ k, S k → k < w.heap.size) :
    Calls Tryd.prog 13 #[.pointer (some ⟨t, 0, none⟩)] w fun e w' => ∃ v L', e = .returned v ∧ TakeIs n L v L' ∧ TS w' S t n L' ∧ Fr t t w w' := by
  obtain ⟨A, c, h1, h2⟩ := h.ex
  have hc0 : w.cell? ⟨t, 0, none⟩ = some (.int .i64 (n : Int)) := blk_cell h1 0
  have HT := hid h
  have HS := hid hS
  have HN1 := hid h.n1
  have HLn := hid (len_le n L h.sorted h.inn)
  clear h h1 h2 hS
  go_enter Tryd.func13, Tryd.ntmps13
  go_wp2
  go_loopg [4] (L.length + 2) (fun kq v4 w' => ∃ i : Nat, v4 = .int .i64 (i : Int) ∧ Hid (i + kq = L.length + 3 ∧ 1 ≤ i) ∧ Hid (∀ j, 1 ≤ j → j < i → j ∈ L) ∧ w' = w)
  case atStart => exact ⟨1, rfl, hid ⟨by omega, by omega⟩, hid (fun j h1 h2 => by omega), rfl⟩
  case round =>
    obtain ⟨i, rfl, HJ, HN, rfl⟩ := hrel
    have hi := low_len L i HT.out.sorted (fun x hx => (HT.out.inn x hx).1) HN.out
    cases gk with
    | zero => exact absurd HJ.out.1 (by omega)
    | succ k1 =>
      have hh := HT.out.has (i : Int)
      rw [hasL_nat] at hh
      by_cases cm : i ∈ L
      · have hd : decide (i ∈ L) = true := decide_eq_true cm
        rw [hd] at hh
        have CM := hid cm
        have HW : Hid (wrap64 ((i : Int) + 1) = ((i + 1 : Nat) : Int)) := by
          have := HN1.out
          have := HLn.out
          refine hid ?_
          rw [wrap_small _ (by omega) (by omega)]; rfl
        clear cm hd
        go_wp2_with (first | (go_at_call 16; (with_reducible refine hh.mono ?_); rintro e w1 ⟨rfl, hw1⟩; subst w1))
        go_roundg k1
        case measure => omega
        case rel =>
          refine ⟨i + 1, congrArg (Value.int .i64) HW.out, hid ⟨by have := HJ.out.1; omega, by omega⟩, hid ?_, rfl⟩
          intro j h1 h2
          by_cases e : j = i
          · subst e; exact CM.out
          · exact HN.out j h1 (by omega)
      · have hd : decide (i ∈ L) = false := decide_eq_false cm
        rw [hd] at hh
        have HM : Hid (Mex L i) := hid ⟨HJ.out.2, cm, HN.out⟩
        clear cm hd
        by_cases cn : n < i
        · have cb : decide (n < i) = true := decide_eq_true cn
          have HF : Hid (L.length = n) := hid (by
            have h9 := HLn.out
            have : ¬ (L.length < n) := fun hlt => by
              have := HM.out.le HT.out.sorted HT.out.inn hlt
              omega
            omega)
          clear cn
          go_wp2_with (first | (go_at_call 16; (with_reducible refine hh.mono ?_); rintro e w1 ⟨rfl, hw1⟩; subst w1))
          go_ret2
          exact ⟨_, L, rfl, Or.inl ⟨HF.out, rfl, rfl⟩, HT.out, Fr.refl _ _ _⟩
        · have cb : decide (n < i) = false := decide_eq_false cn
          have HF : Hid (L.length < n ∧ i ≤ n) := hid (by
            refine ⟨?_, by omega⟩
            have h9 := HLn.out
            by_cases e : L.length = n
            · exact absurd (full n L HT.out.sorted HT.out.inn e i HM.out.pos (by omega)) HM.out.out
            · omega)
          have hus := HT.out.use_new HS.out i HM.out.pos HF.out.2 HM.out.out
          clear cn
          go_wp2_with (first | (go_at_call 16; (with_reducible refine hh.mono ?_); rintro e w1 ⟨rfl, hw1⟩; subst w1) | (go_at_call 23; (with_reducible refine hus.mono ?_); rintro e w2 ⟨rfl, hT2, hF2⟩; have HT2 := hid hT2; have HF2 := hid hF2; clear hT2 hF2))
          go_ret2
          exact ⟨_, insL L i, rfl, Or.inr ⟨HF.out.1, i, HM.out, HF.out.2, rfl, rfl⟩, HT2.out, HF2.out⟩
end Go.Proofs.YtlojhiacaleokaaDoor.Pa
