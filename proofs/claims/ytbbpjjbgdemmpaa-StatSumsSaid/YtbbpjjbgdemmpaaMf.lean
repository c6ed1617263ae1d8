/- StatOf: what stays behind the calls at the law's end. -/
import Derived.Test.YtbbpjjbgdemmpaaMb
import Derived.ChangeKeysEq
import Derived.Deep.MidRow
namespace Go.Proofs.Ytbbpjjbgdemmpaa.PStat
open Go.RowKit Go.Proofs.YtbbpjjbgdemmpaaW.PrintWords Go.Proofs.YtbbpjjbgdemmpaaW.PrintLast Go.Proofs.YtbbpjjbgdemmpaaW.PrintMore
set_option linter.unusedVariables false
set_option linter.unusedSimpArgs false
theorem kc_lit (l : List S54) : kc (cK l) = #[.int .i64 (cK l 0 : Int), .int .i64 (cK l 1 : Int), .int .i64 (cK l 2 : Int), .int .i64 (cK l 3 : Int), .int .i64 (cK l 4 : Int), .int .i64 (cK l 5 : Int), .int .i64 (cK l 6 : Int), .int .i64 (cK l 7 : Int), .int .i64 (cK l 8 : Int), .int .i64 (cK l 9 : Int), .int .i64 (cK l 10 : Int), .int .i64 (cK l 11 : Int), .int .i64 (cK l 12 : Int), .int .i64 (cK l 13 : Int), .int .i64 (cK l 14 : Int), .int .i64 (cK l 15 : Int), .int .i64 (cK l 16 : Int), .int .i64 (cK l 17 : Int)] := rfl
/-- What stays behind the calls at the law's end. -/
def FF (l : List S54) (tb : Nat) (w W : World) : Prop := W.heap[tb]? = some (.cells (tally l.length (nF l) (nW l) (nS l)) 56 (0, 0)) ∧ W.heap[tb + 1]? = some (.cells (kc (cK l)) 45 (0, 0)) ∧ Below w.heap.size w W
def FC_ (l : List S54) (tb : Nat) (KS : List Value) (W : World) : Prop := W.cell? ⟨tb, 0, none⟩ = some (.int .i64 (l.length : Int)) ∧ W.cell? ⟨tb, 1, none⟩ = some (.int .i64 (nF l : Int)) ∧ W.cell? ⟨tb, 2, none⟩ = some (.int .i64 (nW l : Int)) ∧ W.cell? ⟨tb, 3, none⟩ = some (.int .i64 (nS l : Int)) ∧ W.cell? ⟨tb, 4, none⟩ = some (.int .i64 0) ∧ W.cell? ⟨tb, 5, none⟩ = some (.int .i64 0) ∧ W.rangeAt (tb + 1) 0 KS
theorem gg_cells {l : List S54} {tb : Nat} {w W : World} (h : FF l tb w W) : FC_ l tb (kc (cK l)).toList W :=
  ⟨(blk_cell h.1 0).trans rfl, (blk_cell h.1 1).trans rfl, (blk_cell h.1 2).trans rfl, (blk_cell h.1 3).trans rfl, (blk_cell h.1 4).trans rfl, (blk_cell h.1 5).trans rfl, fun j v hv => by rw [Nat.zero_add, blk_cell h.2.1, ← Array.getElem?_toList]; exact hv⟩
theorem ff_below {l : List S54} {tb : Nat} {w W W' : World} (h : FF l tb w W) (hb : Below W.heap.size W W') : FF l tb w W' := ⟨blk_below h.1 hb, blk_below h.2.1 hb, below_step h.2.2 hb⟩
theorem ff_drew {l : List S54} {tb : Nat} {w W : World} (h : FF l tb w W) : FF l tb w W.drew := ff_below h (below_drew (Below.refl _ _))
theorem eq_ints {k : IntKind} {t : TypeId} (ht : Try.prog.underlying t = some (.int k)) (d : Nat) (a : Int) (w : World) : (Op.equalIn (d + 1) t (.int k a) (.int k a)).run Try.prog w = .ok true w := by
  simp [Op.equalIn, run_underlying ht]
theorem eq45 (xs : Array Value) (h : xs.size = 18) (hi : ∀ i, ∀ h : i < xs.size, ∃ a, xs[i] = .int .i64 a) (w : World) : (Op.equalIn 10000 45 (.agg xs) (.agg xs)).run Try.prog w = .ok true w := by
  obtain ⟨i0, hi0, hz⟩ := Option.map_eq_some_iff.1 (show (Try.prog.info? 3).map (·.size) = some 1 by kernel_rfl)
  rw [run_equalIn_array w 9999 xs xs Try.underlying45 hi0]
  have hc : Try.prog.cellsOf 3 = 1 := by kernel_rfl
  rw [hc]
  have key : ∀ is : List Nat, (∀ i ∈ is, i < 18) → (Op.eqItems 9999 3 1 xs xs is).run Try.prog w = .ok true w := by
    intro is
    induction is with
    | nil => intro _; simp [Op.eqItems]
    | cons i is ih =>
      intro hlt
      have hi18 := hlt i (by simp)
      obtain ⟨a, ha⟩ := hi i (by omega)
      have hp : (part 3 xs (i * 1)).run Try.prog w = .ok (.int .i64 a) w := by
        have hg : xs[i]? = some (.int .i64 a) := by rw [Array.getElem?_eq_getElem (by omega), ha]
        have hag : (isAgg 3).run Try.prog w = .ok false w := by kernel_rfl
        simp [part, hag, hg]
      have he := eq_ints Try.underlying3 9998 a w
      rw [Op.eqItems]
      simp only [Sem.run_bind, hp, he, Result.andThen_ok]
      simpa using ih (fun k hk => hlt k (by simp [hk]))
  exact key _ (fun i hi => by simpa using hi)
theorem eq45K (l : List S54) (w : World) : (Op.equalIn 10000 45 (.agg (kc (cK l))) (.agg (kc (cK l)))).run Try.prog w = .ok true w := by
  refine eq45 _ (kc_size _) (fun i h => ⟨(cK l i : Int), ?_⟩) w
  have := kc_at (cK l) i (by rw [kc_size] at h; exact h)
  rw [Array.getElem?_eq_getElem h] at this
  exact Option.some.inj this
theorem kc_info (l : List S54) : (Try.prog.info? 45).map (·.size) = some (kc (cK l)).toList.length := by
  rw [Array.length_toList, kc_size]; kernel_rfl
end Go.Proofs.Ytbbpjjbgdemmpaa.PStat
