/- palloc: the object over its set of pages: Has, Free, use, Give. -/
import Derived.Test.YtlojhiacaleokaaDoorPl
namespace Go.Proofs.YtlojhiacaleokaaDoor.Pa
open Go.RowKit
set_option linter.unusedVariables false
set_option linter.unusedSimpArgs false
/-- The object holds the pages L of 1 to n. -/
structure PS (w : World) (b g : Nat) (n : Nat) (L : List Nat) : Prop where
  ex : ∃ xs, Pg w b g (n : Int) ((n : Int) - (L.length : Int)) xs ∧ ul xs = L
  inn : In n L
theorem PS.sorted {w : World} {b g n : Nat} {L : List Nat} (h : PS w b g n L) : L.Pairwise (· < ·) := by
  obtain ⟨xs, _, rfl⟩ := h.ex
  exact ul_sorted xs
theorem PS.len {w : World} {b g n : Nat} {L : List Nat} (h : PS w b g n L) : L.length ≤ n := len_le n L h.sorted h.inn
theorem PS.n1 {w : World} {b g n : Nat} {L : List Nat} (h : PS w b g n L) : n ≤ 1048576 := by
  obtain ⟨xs, hp, _⟩ := h.ex
  have := hp.n1
  omega
theorem PS.move {w w' : World} {b g n : Nat} {L : List Nat} (h : PS w b g n L) (hb : w'.heap[b]? = w.heap[b]?) (hg : w'.heap[g]? = w.heap[g]?) : PS w' b g n L := by
  obtain ⟨xs, hp, hl⟩ := h.ex
  exact ⟨⟨xs, ⟨hb.trans hp.obj, hg.trans hp.row, hp.ne, hp.len, hp.n0, hp.n1, hp.lt⟩, hl⟩, h.inn⟩
theorem PS.lt {w : World} {b g n : Nat} {L : List Nat} (h : PS w b g n L) : b < w.heap.size ∧ g < w.heap.size := by
  obtain ⟨xs, hp, hl⟩ := h.ex
  constructor
  · rcases Nat.lt_or_ge b w.heap.size with h1 | h1
    · exact h1
    · have := hp.obj; rw [Array.getElem?_eq_none h1] at this; cases this
  · rcases Nat.lt_or_ge g w.heap.size with h1 | h1
    · exact h1
    · have := hp.row; rw [Array.getElem?_eq_none h1] at this; cases this
theorem PS.below {w w' : World} {b g n : Nat} {L : List Nat} (h : PS w b g n L) (hb : Below w.heap.size w w') : PS w' b g n L := h.move (hb.block b h.lt.1) (hb.block g h.lt.2)
theorem PS.ne {w : World} {b g n : Nat} {L : List Nat} (h : PS w b g n L) : b ≠ g := by
  obtain ⟨xs, hp, hl⟩ := h.ex
  exact hp.ne
theorem word_lt {w : World} {b g : Nat} {n : Nat} {f : Int} {xs : List Nat} (h : Pg w b g (n : Int) f xs) (i : Nat) (hi : i ≤ n) : i / 64 < xs.length := by
  have := h.len
  omega
def hasL (L : List Nat) (i : Int) : Bool := decide (i.toNat ∈ L)
theorem has_L {n : Nat} {xs : List Nat} (hin : In n (ul xs)) (i : Int) : has (n : Int) xs i = hasL (ul xs) i := by
  rcases (show i < 0 ∨ 0 ≤ i by omega) with c | c
  · have h1 : has (n : Int) xs i = false := by
      unfold has wi
      rw [decide_eq_false (by omega)]; rfl
    rw [h1]
    symm
    unfold hasL
    rw [decide_eq_false_iff_not]
    intro hm
    have := (hin _ hm).1
    omega
  · obtain ⟨m, rfl⟩ := Int.eq_ofNat_of_zero_le c
    rw [has_bit, hasL, Int.toNat_natCast]
    have : decide (m ∈ ul xs) = bit xs m := by
      rw [Bool.eq_iff_iff, decide_eq_true_iff, mem_ul]
    rw [this]
    cases hb : bit xs m with
    | false => rw [Bool.and_false]
    | true =>
      have := hin m ((mem_ul xs m).2 hb)
      unfold wi
      rw [decide_eq_true (by omega), decide_eq_true (by omega)]; rfl
theorem PS.has {w : World} {b g n : Nat} {L : List Nat} (h : PS w b g n L) (i : Int) :
    Calls Tryd.prog 15 #[.pointer (some ⟨b, 0, none⟩), .int .i64 i] w fun e w' => e = .returned (.bool (hasL L i)) ∧ w' = w := by
  obtain ⟨xs, hp, rfl⟩ := h.ex
  rw [← has_L h.inn]
  exact has_ hp i
theorem PS.free {w : World} {b g n : Nat} {L : List Nat} (h : PS w b g n L) :
    Calls Tryd.prog 9 #[.pointer (some ⟨b, 0, none⟩)] w fun e w' => e = .returned (.int .i64 ((n : Int) - (L.length : Int))) ∧ w' = w := by
  obtain ⟨xs, hp, rfl⟩ := h.ex
  exact free_ hp
def useL (n : Nat) (L : List Nat) (i : Int) : List Nat := if 1 ≤ i ∧ i ≤ (n : Int) ∧ i.toNat ∉ L then insL L i.toNat else L
theorem In_insL {n : Nat} {L : List Nat} (h : In n L) (i : Nat) (h1 : 1 ≤ i) (h2 : i ≤ n) : In n (insL L i) := by
  intro x hx
  rcases (mem_insL L i x).1 hx with e | e
  · omega
  · exact h x e
theorem In_delL {n : Nat} {L : List Nat} (h : In n L) (i : Nat) : In n (delL L i) := fun x hx => h x (List.mem_filter.1 hx).1
theorem In_useL {n : Nat} {L : List Nat} (h : In n L) (i : Int) : In n (useL n L i) := by
  unfold useL
  split
  · rename_i hc; exact In_insL h _ (by omega) (by omega)
  · exact h
theorem sorted_useL {n : Nat} {L : List Nat} (h : L.Pairwise (· < ·)) (i : Int) : (useL n L i).Pairwise (· < ·) := by
  unfold useL
  split
  · exact insL_sorted L _ h
  · exact h
theorem PS.use {w : World} {b g n : Nat} {L : List Nat} (h : PS w b g n L) (i : Int) :
    Calls Tryd.prog 21 #[.pointer (some ⟨b, 0, none⟩), .int .i64 i] w fun e w' => e = .returned (.tuple #[]) ∧ PS w' b g n (useL n L i) ∧ Fr b g w w' := by
  have hl := h.len
  have hn := h.n1
  have hin := h.inn
  obtain ⟨xs, hp, rfl⟩ := h.ex
  by_cases c : 1 ≤ i ∧ i ≤ (n : Int) ∧ i.toNat ∉ ul xs
  · obtain ⟨c1, c2, c3⟩ := c
    have hw : wi (n : Int) i = true := by
      unfold wi; rw [decide_eq_true c1, decide_eq_true c2]; rfl
    have hh : Pa.has (n : Int) xs i = false := by
      rw [has_L hin, hasL, decide_eq_false_iff_not]; exact c3
    refine (use_ hp i hw hh (by omega) (by omega)).mono ?_
    rintro e w' ⟨rfl, hp', hf⟩
    obtain ⟨m, rfl⟩ := Int.eq_ofNat_of_zero_le (show 0 ≤ i by omega)
    rw [Int.toNat_natCast] at c3
    have hi := word_lt hp m (by omega)
    refine ⟨rfl, ⟨⟨put xs m, ?_, ?_⟩, ?_⟩, hf⟩
    · have hlen : (useL n (ul xs) m).length = (ul xs).length + 1 := by
        unfold useL
        rw [if_pos ⟨c1, c2, by rw [Int.toNat_natCast]; exact c3⟩, Int.toNat_natCast]
        exact insL_len _ _ c3
      rw [hlen]
      have e : (n : Int) - (((ul xs).length + 1 : Nat) : Int) = (n : Int) - ((ul xs).length : Int) - 1 := by omega
      rw [e]
      exact hp'
    · unfold useL
      rw [if_pos ⟨c1, c2, by rw [Int.toNat_natCast]; exact c3⟩, Int.toNat_natCast]
      exact ul_put xs m hi
    · exact In_useL hin _
  · have hs : wi (n : Int) i = false ∨ Pa.has (n : Int) xs i = true := by
      by_cases c1 : 1 ≤ i
      · by_cases c2 : i ≤ (n : Int)
        · right
          rw [has_L hin, hasL, decide_eq_true_iff]
          exact Classical.byContradiction fun hc => c ⟨c1, c2, hc⟩
        · left
          unfold wi; rw [decide_eq_false c2, Bool.and_false]
      · left
        unfold wi; rw [decide_eq_false c1, Bool.false_and]
    refine (use_skip hp i hs).mono ?_
    rintro e w' ⟨rfl, rfl⟩
    have e : useL n (ul xs) i = ul xs := by unfold useL; rw [if_neg c]
    rw [e]
    exact ⟨rfl, h, Fr.refl _ _ _⟩
def giveL (L : List Nat) (i : Int) : List Nat := delL L i.toNat
theorem delL_none (L : List Nat) (i : Nat) (h : i ∉ L) : delL L i = L := by
  unfold delL
  rw [List.filter_eq_self]
  intro a ha
  rw [decide_eq_true_iff]
  rintro rfl
  exact h ha
theorem PS.give {w : World} {b g n : Nat} {L : List Nat} (h : PS w b g n L) (i : Int) :
    Calls Tryd.prog 11 #[.pointer (some ⟨b, 0, none⟩), .int .i64 i] w fun e w' => e = .returned (.bool (hasL L i)) ∧ PS w' b g n (giveL L i) ∧ Fr b g w w' := by
  have hl := h.len
  have hn := h.n1
  have hin := h.inn
  obtain ⟨xs, hp, rfl⟩ := h.ex
  cases hh : hasL (ul xs) i with
  | false =>
    refine (give_no hp i (by rw [has_L hin]; exact hh)).mono ?_
    rintro e w' ⟨rfl, rfl⟩
    have e : giveL (ul xs) i = ul xs := delL_none _ _ (by simpa [hasL] using hh)
    rw [e]
    exact ⟨rfl, h, Fr.refl _ _ _⟩
  | true =>
    have hm : i.toNat ∈ ul xs := by simpa [hasL] using hh
    have hb := hin _ hm
    obtain ⟨m, rfl⟩ := Int.eq_ofNat_of_zero_le (show 0 ≤ i by omega)
    rw [Int.toNat_natCast] at hm hb
    have hw : wi (n : Int) (m : Int) = true := by
      unfold wi; rw [decide_eq_true (by omega), decide_eq_true (by omega)]; rfl
    refine (give_ hp m hw (by rw [has_L hin]; exact hh) (by omega) (by omega)).mono ?_
    rintro e w' ⟨rfl, hp', hf⟩
    have hi := word_lt hp m (by omega)
    refine ⟨rfl, ⟨⟨del xs m, ?_, ?_⟩, In_delL hin _⟩, hf⟩
    · have hlen := delL_len (ul xs) m (ul_sorted xs) hm
      unfold giveL
      rw [Int.toNat_natCast]
      have e : (n : Int) - ((delL (ul xs) m).length : Int) = (n : Int) - ((ul xs).length : Int) + 1 := by omega
      rw [e]
      exact hp'
    · unfold giveL
      rw [Int.toNat_natCast]
      exact ul_del xs m hi hp.lt
end Go.Proofs.YtlojhiacaleokaaDoor.Pa
