/- General pure lemmas of this session: numbers in range, reads of lists, loops that compare. No program in sight. -/
import Derived.Test.YtnikcccobfcndaaWWords
import Derived.Test.YtnikcccobfcndaaWNEv
import Derived.Test.YtnikcccobfcndaaL
import Derived.Laws.BitsAllLaws
import Derived.OpenShut
namespace Go.Proofs.Ytnikcccobfcndaa.Q
open Go.RowKit Go.Proofs.YtnikcccobfcndaaW.PrintWords
set_option linter.unusedVariables false
theorem wrap64_in {x : Int} (h0 : -9223372036854775808 ≤ x) (h1 : x < 9223372036854775808) : wrap64 x = x := by unfold wrap64; omega
theorem wrap64_rng (x : Int) : -9223372036854775808 ≤ wrap64 x ∧ wrap64 x < 9223372036854775808 := by unfold wrap64; omega
theorem u64_in {x : Int} (h0 : 0 ≤ x) (h1 : x < 18446744073709551616) : IntKind.u64.wrap x = x := by
  show x % 18446744073709551616 = x; omega
theorem wf_u64 {x : Int} (h : (Lit.int .u64 x).wf = true) : 0 ≤ x ∧ x < 18446744073709551616 := by
  have := bounds_u64 h; omega
theorem wf_u8 {x : Int} (h : (Lit.int .u8 x).wf = true) : 0 ≤ x ∧ x < 256 := by
  have := bounds_u8 h; omega
theorem wf_i64 {x : Int} (h : (Lit.int .i64 x).wf = true) : -9223372036854775808 ≤ x ∧ x < 9223372036854775808 := by
  have := bounds_i64 h; omega
theorem rd_nat (l : List Int) (i : Nat) : rd l (i : Int) = l.getD i 0 := by unfold rd; rw [Int.toNat_natCast]
theorem rd_get (l : List Int) (i : Nat) (h : i < l.length) : rd l (i : Int) = l[i] := by
  rw [rd_nat, List.getD_eq_getElem?_getD, List.getElem?_eq_getElem h]; rfl
theorem rd_mem (l : List Int) (i : Nat) (h : i < l.length) : rd l (i : Int) ∈ l := by rw [rd_get l i h]; exact List.getElem_mem h
/-- Each word of a list of words, or nought behind it. -/
theorem rd_all {l : List Int} {p : Int → Prop} (h : ∀ x ∈ l, p x) (h0 : p 0) (i : Nat) : p (rd l (i : Int)) := by
  by_cases c : i < l.length
  · exact h _ (rd_mem l i c)
  · rw [rd_nat, List.getD_eq_getElem?_getD, List.getElem?_eq_none (by omega)]; exact h0
/-- A loop that compares two lists of one length, element by element. -/
theorem eq_loop {α : Type} {F : Nat → Int → Option Bool} {a b : List α} (hl : a.length = b.length) (hb : a.length ≤ 9223372036854775806)
    (stop : ∀ k, F (k + 1) (a.length : Int) = some true)
    (go : ∀ k (i : Nat) (h : i < a.length) (h' : i < b.length), a[i] = b[i] → F (k + 1) (i : Int) = F k ((i : Int) + 1))
    (no : ∀ k (i : Nat) (h : i < a.length) (h' : i < b.length), a[i] ≠ b[i] → F (k + 1) (i : Int) = some false)
    [DecidableEq α] (d : Nat) : ∀ (i k : Nat), i ≤ a.length → a.length - i = d → d < k → F k (i : Int) = some (decide (a.drop i = b.drop i)) := by
  induction d with
  | zero =>
    intro i k hi hd hk
    obtain ⟨k, rfl⟩ : ∃ m, k = m + 1 := ⟨k - 1, by omega⟩
    obtain rfl : i = a.length := by omega
    rw [stop, List.drop_length, hl, List.drop_length]; simp
  | succ d ih =>
    intro i k hi hd hk
    obtain ⟨k, rfl⟩ : ∃ m, k = m + 1 := ⟨k - 1, by omega⟩
    have h1 : i < a.length := by omega
    have h2 : i < b.length := by omega
    have e1 := List.drop_eq_getElem_cons h1
    have e2 := List.drop_eq_getElem_cons h2
    rw [e1, e2]
    clear e1 e2
    by_cases c : a[i] = b[i]
    · rw [go k i h1 h2 c, show (i : Int) + 1 = ((i + 1 : Nat) : Int) by omega, ih (i + 1) k (by omega) (by omega) (by omega)]
      rw [c]
      congr 1
      rw [decide_eq_decide]
      exact ⟨fun e => by rw [e], fun e => (List.cons.inj e).2⟩
    · rw [no k i h1 h2 c]
      congr 1
      rw [eq_comm, decide_eq_false_iff_not]
      exact fun e => c (List.cons.inj e).1
/-- The same for lists of numbers, the printer's loop. -/
theorem eq_loop_int {F : Nat → Int → Option Bool} {a b : List Int} (hl : a.length = b.length) (hb : a.length ≤ 9223372036854775806)
    (st : ∀ k (i : Int), F (k + 1) i = if i < (a.length : Int) then (if 0 ≤ i then (if i < (a.length : Int) then (if i < (b.length : Int) then (if (rd a i) = (rd b i) then (F k (wrap64 (i + 1))) else (some false)) else (none)) else (none)) else (none)) else (some true))
    (k : Nat) (hk : a.length < k) : F k 0 = some (decide (a = b)) := by
  have h := eq_loop (F := F) hl hb (fun k => by rw [st, if_neg (by omega)])
    (fun k i h h' e => by rw [st, if_pos (by omega), if_pos (by omega), if_pos (by omega), if_pos (by omega), if_pos (by rw [rd_get a i h, rd_get b i h']; exact e), wrap64_in (by omega) (by omega)])
    (fun k i h h' e => by rw [st, if_pos (by omega), if_pos (by omega), if_pos (by omega), if_pos (by omega), if_neg (by rw [rd_get a i h, rd_get b i h']; exact e)])
    a.length 0 k (by omega) (by omega) hk
  rw [List.drop_zero, List.drop_zero] at h
  exact h
theorem len_toList (a : ByteArray) : a.toList.length = a.size := by rw [ByteArray.toList_eq, Array.length_toList]; rfl
theorem take_toList (a : ByteArray) (n : Nat) : (a.extract 0 n).toList = a.toList.take n := by
  rw [ByteArray.toList_eq, ByteArray.toList_eq]; rw [ByteArray.data_extract, Array.toList_extract, List.extract_eq_take_drop, List.drop_zero, Nat.sub_zero]
theorem bt_toList (a : ByteArray) (i : Nat) (h : i < a.size) : bt a (i : Int) = ((a.toList[i]'(by rw [len_toList]; exact h)).toNat : Int) := by
  unfold bt
  rw [Int.toNat_natCast, dif_pos h]
  have e : a.toList[i]'(by rw [len_toList]; exact h) = a[i] := by
    have := ByteArray.toList_eq a
    simp only [this]; rfl
  rw [e]
theorem byte_eq (b : UInt8) (n : Nat) (h : n < 256) : ((b.toNat : Int) = (n : Int)) ↔ b = UInt8.ofNat n := by
  constructor
  · intro e
    have : b.toNat = n := by omega
    rw [← this]; simp
  · intro e; rw [e]; simp; omega
theorem of_k {α : Type} {g : Nat → Option α} {r : α} (K : Nat) (h : ∀ k, K < k → g k = some r) : Ev g r := ⟨K + 1, fun k hk => h k (by omega)⟩
end Go.Proofs.Ytnikcccobfcndaa.Q
