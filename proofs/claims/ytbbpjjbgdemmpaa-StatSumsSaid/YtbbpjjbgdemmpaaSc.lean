/- stat.Kinds: how often which kinds were done. -/
import Derived.Test.YtbbpjjbgdemmpaaSb
namespace Go.Proofs.Ytbbpjjbgdemmpaa.PStat
open Go.RowKit Go.Proofs.YtbbpjjbgdemmpaaW.PrintWords Go.Proofs.YtbbpjjbgdemmpaaW.PrintLast Go.Proofs.YtbbpjjbgdemmpaaW.PrintMore
set_option linter.unusedVariables false
set_option linter.unusedSimpArgs false
/-- The kind that counts. -/
def kk (x : S54) : Nat := if 1 ≤ kd x ∧ kd x ≤ 17 then (kd x).toNat else 0
def cK (l : List S54) (q : Nat) : Nat := l.countP (fun x => decide (kk x = q))
def kc (f : Nat → Nat) : Array Value := ((List.range 18).map fun q => Value.int .i64 (f q : Int)).toArray
theorem kc_size (f : Nat → Nat) : (kc f).size = 18 := by simp [kc]
theorem kc_at (f : Nat → Nat) (q : Nat) (h : q < 18) : (kc f)[q]? = some (.int .i64 (f q : Int)) := by simp [kc, h]
theorem kc_one (f : Nat → Nat) : (kc f).all (·.oneCell') = true := by
  rw [Array.all_eq_true]
  intro i hi
  simp [kc, Value.oneCell']
theorem kc_set (f g : Nat → Nat) (q : Nat) (v : Int) (hv : v = (g q : Int)) (hg : ∀ p, p ≠ q → g p = f p) : (kc f).setIfInBounds q (.int .i64 v) = kc g := by
  apply Array.ext
  · simp [kc]
  · intro i h1 h2
    have hi : i < 18 := by simpa [kc] using h2
    by_cases e : i = q
    · subst e; simp [kc, hv]
    · simp [kc, Array.getElem_setIfInBounds, Ne.symm e, hg i e]
theorem cK_snoc (l : List S54) (j : Nat) (h : j < l.length) (q : Nat) : cK (l.take (j + 1)) q = cK (l.take j) q + if kk l[j] = q then 1 else 0 := by
  unfold cK; rw [cp_snoc _ _ _ h]; congr 1; by_cases e : kk l[j] = q <;> simp [e]
theorem kc_step (l : List S54) (j : Nat) (h : j < l.length) (q : Nat) (hq : kk l[j] = q) (v : Int) (hv : v = (cK (l.take j) q : Int) + 1) : (kc (cK (l.take j))).setIfInBounds q (.int .i64 v) = kc (cK (l.take (j + 1))) :=
  kc_set _ _ _ _ (by rw [hv, cK_snoc l j h, if_pos hq]; rfl) (fun p hp => by rw [cK_snoc l j h, if_neg (by rw [hq]; exact Ne.symm hp)]; rfl)
theorem kk_lt (x : S54) : kk x < 18 := by unfold kk; split <;> omega
def wordOf (k : Int) : ByteArray := if 0 ≤ k then call_Word.wd k.toNat else ⟨#[]⟩
theorem word_calls (k : Int) (w : World) : Calls Try.prog 18 #[.int .i64 k] w fun e w' => e = .returned (.string (wordOf k)) ∧ Below w.heap.size w w' := call_Word.calls k _ w rfl
theorem word_in : ∀ i : Nat, i < 18 → 1 ≤ i → (call_Word.wd i).toList.isEmpty = false := by decide +kernel
theorem word_out (i : Nat) (h : 18 ≤ i) : (call_Word.wd i) = ⟨#[]⟩ := by
  unfold call_Word.wd
  rw [List.getD_eq_getElem?_getD, List.getElem?_eq_none (by have : call_Word.list.length = 18 := rfl; omega)]; rfl
theorem word_yes {k : Int} (h1 : 1 ≤ k) (h2 : k ≤ 17) : (wordOf k).toList.isEmpty = false := by
  unfold wordOf
  rw [if_pos (by omega)]
  exact word_in k.toNat (by omega) (by omega)
theorem word_no {k : Int} (h : ¬ (1 ≤ k ∧ k ≤ 17)) : wordOf k = ⟨#[]⟩ := by
  unfold wordOf
  by_cases h0 : 0 ≤ k
  · rw [if_pos h0]
    by_cases h1 : k = 0
    · subst h1; rfl
    · exact word_out _ (by omega)
  · rw [if_neg h0]
end Go.Proofs.Ytbbpjjbgdemmpaa.PStat
