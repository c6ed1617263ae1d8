/- dirs.Put's contract. -/
import Derived.Test.YteoklaofbdfjlaaPDirsx1p
import Derived.Test.YteoklaofbdfjlaaDk
import Derived.Test.YteoklaofbdfjlaaQ
import Derived.RegionTactic
import Derived.Outline
import Derived.Deep.RegionHeld3
namespace Go.Proofs.Yteoklaofbdfjlaa.Dc
open Go.RowKit Go.Lib Go.Proofs.YteoklaofbdfjlaaW.PrintWords Go.Proofs.YteoklaofbdfjlaaW.PrintLast Go.Proofs.YteoklaofbdfjlaaW.PrintMore Go.Proofs.Yteoklaofbdfjlaa.PDirs Go.Proofs.Yteoklaofbdfjlaa.Q
set_option linter.unusedVariables false
def nm (x : S49) : List UInt8 := x.f0.toList
theorem rdt (l : List S49) (i : Nat) (h : i < l.length) : rd_T49 l (i : Int) = l[i] := by
  unfold rd_T49
  rw [Int.toNat_natCast, List.getD_eq_getElem?_getD, List.getElem?_eq_getElem h]; rfl
theorem place_loop (s : ByteArray) (l : List S49) (hb : l.length ≤ 1000) : ∀ (d i k : Nat), l.length - i = d → i ≤ l.length → d < k →
    (∃ j, ∃ h : j < l.length, i ≤ j ∧ nm l[j] = s.toList ∧ dirs_place.l0 k s l (l.length : Int) (i : Int) = some (j : Int)) ∨ ((∀ x ∈ l.drop i, nm x ≠ s.toList) ∧ dirs_place.l0 k s l (l.length : Int) (i : Int) = some (-1)) := by
  intro d
  induction d with
  | zero =>
    intro i k h1 h2 h3
    obtain ⟨k, rfl⟩ : ∃ m, k = m + 1 := ⟨k - 1, by omega⟩
    refine Or.inr ⟨?_, by rw [dirs_place.l0, if_neg (by omega)]⟩
    rw [List.drop_eq_nil_of_le (by omega)]
    exact fun x hx => by cases hx
  | succ d ih =>
    intro i k h1 h2 h3
    obtain ⟨k, rfl⟩ : ∃ m, k = m + 1 := ⟨k - 1, by omega⟩
    have hi : i < l.length := by omega
    rw [dirs_place.l0, if_pos (by omega), if_pos (by omega), if_pos (by omega), rdt l i hi]
    by_cases c : l[i].f0.toList = s.toList
    · rw [if_pos c]; exact Or.inl ⟨i, hi, Nat.le_refl _, c, rfl⟩
    · rw [if_neg c, wrap64_in (by omega) (by omega)]
      rcases ih (i + 1) k (by omega) (by omega) (by omega) with ⟨j, hj, h, hn, he⟩ | ⟨hn, he⟩
      · exact Or.inl ⟨j, hj, by omega, hn, he⟩
      · refine Or.inr ⟨fun x hx => ?_, he⟩
        rw [List.drop_eq_getElem_cons hi, List.mem_cons] at hx
        rcases hx with rfl | hx
        · exact c
        · exact hn x hx
theorem place_ev (s : ByteArray) (l : List S49) (hb : l.length ≤ 1000) :
    ((l.any fun x => decide (x.f0.toList = s.toList)) = true ∧ ∃ j : Nat, dirs_place.f 1001 l s = some (j : Int)) ∨ ((l.any fun x => decide (x.f0.toList = s.toList)) = false ∧ dirs_place.f 1001 l s = some (-1)) := by
  rcases place_loop s l hb l.length 0 1001 (by omega) (by omega) (by omega) with ⟨j, hj, _, hn, he⟩ | ⟨hn, he⟩
  · exact .inl ⟨List.any_eq_true.2 ⟨l[j], List.getElem_mem hj, decide_eq_true hn⟩, j, he⟩
  · rw [List.drop_zero] at hn
    exact .inr ⟨List.any_eq_false.2 (fun x hx => by simpa [nm] using hn x hx), he⟩
/-- dirs.Put's closure: whether s comes ahead of the entry's name. -/
def aft (s : ByteArray) (x : S49) : Bool := Op.bytesLess s.toList x.f0.toList
theorem pred63 (s : ByteArray) (B : Nat) (w : World) (hb : w.heap[B]? = some (.cells #[.string s] 9 (0, 0))) : Pred 63 #[.pointer (some ⟨B, 0, none⟩)] (aft s) w := fun W x h => by
  have hB : B < w.heap.size := (Array.getElem?_eq_some_iff.1 hb).1
  have hW := blk_below hb h
  have hBW := (Array.getElem?_eq_some_iff.1 hW).1
  have hc : W.cell? ⟨B, 0, none⟩ = some (.string s) := blk_cell hW 0
  have hne : B ≠ W.heap.size := by omega
  have HL := Aside0.mk (name_Less.calls s x.f0 (aft s x) (W.alloc (.cells #[.string x.f0, .int .i64 x.f1] 49)) rfl)
  have HB := Aside0.mk (below_alloc h (.cells #[.string x.f0, .int .i64 x.f1] 49))
  clear hb hW h hB
  go_enter Try.func63, Try.ntmps63
  go_wp2_with (go_at_call 57; refine HL.out.mono ?_; rintro e w1 ⟨rfl, hd⟩)
  go_ret
  exact ⟨rfl, below_step HB.out hd.below⟩
theorem put_found (A0 : Option Addr) (c0 : Nat) (l0 : List S49) (a1 : ByteArray) (a2 : Int) (w : World) (hr0 : Kd.C k49 w A0 l0.length l0) (hc0 : l0.length ≤ c0) (hl : l0.length ≤ 1000) (hf : (l0.any fun x => decide (x.f0.toList = a1.toList)) = true) :
    Calls Try.prog 27 #[.slice A0 l0.length c0, .string a1, .int .i64 a2] w fun e w' => ∃ v0_ : Value, e = .returned (.tuple #[v0_, .bool false]) ∧ Kd.R k49 49 w' w.heap.size (fun _ => True) v0_ l0 ∧ Below w.heap.size w w' := by
  obtain ⟨j, hj⟩ : ∃ j : Nat, dirs_place.f 1001 l0 a1 = some (j : Int) := by
    rcases place_ev a1 l0 hl with ⟨_, h⟩ | ⟨h, _⟩
    · exact h
    · rw [h] at hf; cases hf
  have HA := Aside0.mk (below_alloc (Below.refl _ w) (.cells #[.string a1] 9))
  have HP := Aside0.mk (dirs_place.calls 1001 A0 c0 l0 a1 (j : Int) (w.alloc (.cells #[.string a1] 9)) (Kd.C_alloc hr0 _) hc0 hj)
  have HR := Aside0.mk hr0
  have HC := Aside0.mk hc0
  have HL := Aside0.mk hl
  clear hr0 hc0 hl hf hj
  have hge : decide ((0 : Int) ≤ (j : Int)) = true := by simp
  have hge2 : (0 : Int) ≤ (j : Int) := by omega
  go_enter Try.func27, Try.ntmps27
  go_wp2_with (first
    | (go_at_call 61; refine HP.out.mono ?_; rintro e w1 ⟨rfl, hB⟩; have HBl := Aside0.mk (below_step HA.out hB); clear hB)
    | (go_at_call 59; refine (clone.calls A0 c0 l0 l0 w1 (Kd.C_below HR.out HBl.out) HC.out (by unfold clone.f; rw [if_pos (by have := HL.out; omega)])).mono ?_; rintro e w2 ⟨v, rfl, hR, hB⟩; have HR2 := Aside0.mk (Kd.R_lower (base' := w.heap.size) hR HBl.out.size); have HBl2 := Aside0.mk (below_step HBl.out hB); clear hR hB))
  go_ret2
  exact ⟨_, rfl, HR2.out, HBl2.out⟩
end Go.Proofs.Yteoklaofbdfjlaa.Dc
