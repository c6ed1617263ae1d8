/- palloc: the document's object Taken: views of its row; Has. -/
import Derived.Test.YtlojhiacaleokaaDoorPt
import Derived.Test.YtlojhiacaleokaaDoorPPallocRunsx1
namespace Go.Proofs.YtlojhiacaleokaaDoor.Pa
open Go.RowKit Go.Proofs.YtlojhiacaleokaaDoorW.PrintWords Go.Proofs.YtlojhiacaleokaaDoorW.PrintLast Go.Proofs.YtlojhiacaleokaaDoorW.PrintMore
set_option linter.unusedVariables false
set_option linter.unusedSimpArgs false
def vals (l : List Nat) : List Int := l.map (fun x : Nat => (x : Int))
theorem vals_len (l : List Nat) : (vals l).length = l.length := by simp [vals]
theorem vals_append (a b : List Nat) : vals (a ++ b) = vals a ++ vals b := by simp [vals]
theorem vals_rd (l : List Nat) (j : Nat) (hj : j < l.length) : rd (vals l) (j : Int) = (l[j] : Int) := by
  simp [rd, vals, List.getD_eq_getElem?_getD, hj]
/-- A row of pages that is read; its block is none of S. -/
structure Vw (w : World) (S : Nat → Prop) (A : Option Addr) (c : Nat) (l : List Nat) : Prop where
  len : l.length ≤ c
  row : Kd.C (Kd.int .i64) w A l.length (vals l)
  out : ∀ ad, A = some ad → ¬ S ad.block ∧ ad.block < w.heap.size
  nil : A = none → c = 0
theorem Vw.move {w w' : World} {S : Nat → Prop} {A : Option Addr} {c : Nat} {l : List Nat} (h : Vw w S A c l) (hk : Kept w w' S) : Vw w' S A c l := by
  refine ⟨h.len, Kd.C_foot_neS (fun h => h) h.row (fun ad ha hn => (h.out ad ha).1) w' hk, fun ad ha => ⟨(h.out ad ha).1, Nat.lt_of_lt_of_le (h.out ad ha).2 hk.1⟩, h.nil⟩
/-- The document's object in block t: pages to n, those that are used. -/
structure TS (w : World) (S : Nat → Prop) (t : Nat) (n : Nat) (L : List Nat) : Prop where
  ex : ∃ A c, w.heap[t]? = some (.cells #[.int .i64 (n : Int), .slice A L.length c] 38 (0, 0)) ∧ Vw w S A c L
  st : S t
  sorted : L.Pairwise (· < ·)
  inn : In n L
  n1 : n ≤ 1048576
theorem TS.lt {w : World} {S : Nat → Prop} {t n : Nat} {L : List Nat} (h : TS w S t n L) : t < w.heap.size := by
  obtain ⟨A, c, h1, _⟩ := h.ex
  exact blk_lt h1
theorem TS.move {w w' : World} {S : Nat → Prop} {t n : Nat} {L : List Nat} (h : TS w S t n L) (hk : Kept w w' S) (ht : w'.heap[t]? = w.heap[t]?) : TS w' S t n L := by
  obtain ⟨A, c, h1, h2⟩ := h.ex
  exact ⟨⟨A, c, ht.trans h1, h2.move hk⟩, h.st, h.sorted, h.inn, h.n1⟩
set_option maxHeartbeats 2000000 in
theorem TS.has {w : World} {S : Nat → Prop} {t n : Nat} {L : List Nat} (h : TS w S t n L) (i : Int) :
    Calls Tryd.prog 16 #[.pointer (some ⟨t, 0, none⟩), .int .i64 i] w fun e w' => e = .returned (.bool (hasL L i)) ∧ w' = w := by
  obtain ⟨A, c, h1, h2⟩ := h.ex
  have hc1 : w.cell? ⟨t, 1, none⟩ = some (.slice A L.length c) := blk_cell h1 1
  have HV := hid h2
  have HS := hid h
  clear h h1 h2
  go_enter Tryd.func16, Tryd.ntmps16
  go_wp2
  go_loopg [12] (L.length + 1) (fun kq v12 w' => ∃ j : Nat, v12 = .int .i64 (j : Int) ∧ Hid (j + kq = L.length + 1 ∧ j ≤ L.length) ∧ Hid (∀ x ∈ L.take j, (x : Int) ≠ i) ∧ w' = w)
  case atStart => exact ⟨0, rfl, hid ⟨by omega, by omega⟩, hid (by simp), rfl⟩
  case round =>
    obtain ⟨j, rfl, HJ, HN, rfl⟩ := hrel
    have hj := HJ.out.2
    cases gk with
    | zero => exact absurd HJ.out.1 (by omega)
    | succ k1 =>
      by_cases cj : j < L.length
      · have c4b0 : decide ((j : Int) < (L.length : Int)) = true := decide_eq_true (by omega)
        obtain ⟨ad, rfl, hx⟩ := Kd.at_int HV.out.row (j : Int) (by omega) (by omega)
        rw [Int.toNat_natCast, vals_rd L j cj] at hx
        have p0 : (0 ≤ (j : Int)) = True := eq_true (by omega)
        have q0 : ((j : Int) < (L.length : Int)) = True := eq_true (by omega)
        have hw : wrap64 ((j : Int) + 1) = ((j + 1 : Nat) : Int) := by
          have := Nat.le_trans (len_le n L HS.out.sorted HS.out.inn) HS.out.n1
          rw [wrap_small _ (by omega) (by omega)]; rfl
        have hmem := hid (List.getElem_mem cj)
        have htake : Hid (L.take (j + 1) = L.take j ++ [L[j]]) := hid (List.take_succ_eq_append_getElem cj)
        obtain ⟨x, hxe⟩ : ∃ x, L[j] = x := ⟨_, rfl⟩
        rw [hxe] at hx hmem htake
        clear hxe
        by_cases ci : (x : Int) = i
        · have cb : ((x : Int) == i) = true := by simpa using ci
          have hh : hasL L i = true := by
            unfold hasL
            rw [decide_eq_true_iff, ← ci, Int.toNat_natCast]
            exact hmem.out
          have HH := hid hh
          clear ci hh
          go_wp2
          go_ret
          exact ⟨congrArg (fun z => Ending.returned (.bool z)) HH.out.symm, rfl⟩
        · have cb : ((x : Int) == i) = false := by simpa using ci
          have CI := hid ci
          have HW := hid hw
          clear ci hw
          go_wp2
          go_roundg k1
          case measure => omega
          case rel =>
            refine ⟨j + 1, congrArg (Value.int .i64) HW.out, hid ⟨by have := HJ.out.1; omega, by omega⟩, hid ?_, rfl⟩
            rw [htake.out]
            intro y hy
            rcases List.mem_append.1 hy with h | h
            · exact HN.out y h
            · rw [List.mem_singleton.1 h]; exact CI.out
      · have c4b0 : decide ((j : Int) < (L.length : Int)) = false := decide_eq_false (by omega)
        have hh : hasL L i = false := by
          have hn := HN.out
          rw [List.take_of_length_le (by omega)] at hn
          unfold hasL
          rw [decide_eq_false_iff_not]
          intro hm
          have h1 := HS.out.inn _ hm
          exact hn _ hm (by omega)
        have HH := hid hh
        clear hh
        go_wp2
        go_ret
        exact ⟨congrArg (fun z => Ending.returned (.bool z)) HH.out.symm, rfl⟩
end Go.Proofs.YtlojhiacaleokaaDoor.Pa
