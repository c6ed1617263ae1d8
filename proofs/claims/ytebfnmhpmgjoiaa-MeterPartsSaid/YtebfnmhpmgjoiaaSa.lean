/- sorting floats: the row, compare, swapRange. -/
import Derived.Test.YtebfnmhpmgjoiaaFb
import Derived.Test.YtebfnmhpmgjoiaaSM
import Derived.Below
import Derived.Laws.Tables
import Derived.Deep.RegionLaw
import Derived.Deep.RegionHeld3
import Derived.Deep.CutRange
import Derived.Deep.LoopGhost
namespace Go.Proofs.Ytebfnmhpmgjoiaa.Fl
open Go.RowKit FT SM
set_option linter.unusedVariables false
set_option linter.unusedSimpArgs false
theorem run_store_float (P : Program) (w : World) (a : Addr) (m : Mode) (k : FloatKind) (x : Nat) : (store a (.float k x) m).run P w = stored P w a (.float k x) m := run_store P w a _ m rfl
attribute [local go_sem] run_store_float
theorem hid {p : Prop} (h : p) : Hid p := h
/-- Of the old blocks g alone may be another. -/
structure Bt (g : Nat) (x y : World) : Prop where
  os : y.os = x.os
  tape : y.tape = x.tape
  output : y.output = x.output
  size : x.heap.size ≤ y.heap.size
  rest : ∀ k, k < x.heap.size → k ≠ g → y.heap[k]? = x.heap[k]?
theorem Bt.refl (g : Nat) (x : World) : Bt g x x := ⟨rfl, rfl, rfl, Nat.le_refl _, fun _ _ _ => rfl⟩
theorem Bt.trans {g : Nat} {x y z : World} (h : Bt g x y) (k : Bt g y z) : Bt g x z :=
  ⟨k.os.trans h.os, k.tape.trans h.tape, k.output.trans h.output, Nat.le_trans h.size k.size, fun j hj h1 => (k.rest j (Nat.lt_of_lt_of_le hj h.size) h1).trans (h.rest j hj h1)⟩
theorem Bt.drew {g : Nat} {x y : World} (h : Bt g x y) : Bt g x y.drew := ⟨h.os, h.tape, h.output, h.size, h.rest⟩
theorem Bt.set {g : Nat} {x y : World} (h : Bt g x y) (j : Nat) (v : Value) : Bt g x (y.setCell ⟨g, j, none⟩ v) :=
  ⟨h.os, h.tape, h.output, by simpa using h.size, fun k hk h1 => (Below.heap_setCell y ⟨g, j, none⟩ v k h1).trans (h.rest k hk h1)⟩
theorem Bt.of {g : Nat} {x y : World} (h : Below x.heap.size x y) : Bt g x y := ⟨h.os, h.tape, h.output, h.size, fun k hk _ => h.block k hk⟩
theorem Bt.below {g : Nat} {x y : World} (h : Bt g x y) {B : Nat} (h0 : B ≤ x.heap.size) (h1 : B ≤ g) : Below B x y :=
  ⟨h.os, h.tape, h.output, h.size, fun k hk => h.rest k (by omega) (by omega)⟩
def F (x : Nat) : Value := .float .f64 x
/-- The floats d lie in block g. -/
def Rw (w : World) (g : Nat) (d : List Nat) : Prop := w.heap[g]? = some (.cells (d.map F).toArray 22 (0, 0))
theorem Rw.cell {w : World} {g : Nat} {d : List Nat} (h : Rw w g d) (j : Nat) (hj : j < d.length) : w.cell? ⟨g, j, none⟩ = some (.float .f64 (d.getD j 0)) := by
  rw [cell_of_row w g j _ _ _ h]
  simp [F, hj, List.getD_eq_getElem?_getD]
theorem Rw.frozen {w : World} {g : Nat} {d : List Nat} (h : Rw w g d) (j : Nat) : w.frozen? ⟨g, j, none⟩ = false := by
  unfold Rw at h
  simp [World.frozen?, h]
theorem Rw.set {w : World} {g : Nat} {d : List Nat} (h : Rw w g d) (j v : Nat) : Rw (w.setCell ⟨g, j, none⟩ (.float .f64 v)) g (d.set j v) := by
  unfold Rw at *
  rw [setCell_eq_setRow w g j _ 22 (0, 0) _ h, setRow_heap w g _ _ 22 (0, 0) h]
  simp [List.map_set, F]
theorem Rw.drew {w : World} {g : Nat} {d : List Nat} (h : Rw w g d) : Rw w.drew g d := h
theorem Rw.move {w w' : World} {g : Nat} {d : List Nat} (h : Rw w g d) (hk : w'.heap[g]? = w.heap[g]?) : Rw w' g d := hk.trans h
theorem Rw.lt {w : World} {g : Nat} {d : List Nat} (h : Rw w g d) : g < w.heap.size := by
  rcases Nat.lt_or_ge g w.heap.size with h1 | h1
  · exact h1
  · unfold Rw at h; rw [Array.getElem?_eq_none h1] at h; cases h
theorem wrap_small (x : Int) (h1 : -9223372036854775808 ≤ x) (h2 : x ≤ 9223372036854775807) : wrap64 x = x := by unfold wrap64; omega
theorem wrap_i64_is (x : Int) : IntKind.i64.wrap x = wrap64 x := by rw [IntKind.wrap_i64]; unfold wrap64; first | rfl | omega
theorem i64_small (x : Int) (h1 : -9223372036854775808 ≤ x) (h2 : x ≤ 9223372036854775807) : IntKind.i64.wrap x = x := (wrap_i64_is x).trans (wrap_small x h1 h2)
theorem less_SW : SW less where
  asymm _ _ h := less_asymm h
  ntrans x y z h1 h2 := by
    cases h : less z x with
    | false => rfl
    | true =>
      exfalso
      cases hyz : less y z with
      | true => have := less_trans hyz h; rw [h1] at this; cases this
      | false =>
        have hs : same y z = true := by unfold same; rw [hyz, h2]; rfl
        rw [← same_less x hs, h1] at h
        cases h
def cmpv (x y : Nat) : Int := if less x y = true then -1 else if less y x = true then 1 else 0
theorem cmpv_neg (x y : Nat) : decide (cmpv x y < 0) = less x y := by
  unfold cmpv
  cases h : less x y <;> cases k : less y x <;> simp
theorem compare_calls (x y : Nat) (w : World) : Calls Try.prog 43 #[.float .f64 x, .float .f64 y] w fun e w' => e = .returned (.int .i64 (cmpv x y)) ∧ w = w' := by
  unfold cmpv
  have h1 := less_calls x y (less x y) w rfl
  have h2 := less_calls y x (less y x) w rfl
  cases h : less x y with
  | true =>
    rw [h] at h1
    go_enter Try.func43, Try.ntmps43
    go_wp2_with (first | (go_at_call 11; with_reducible refine h1.mono ?_; rintro e w1 ⟨rfl, rfl⟩))
    go_ret
    exact ⟨rfl, rfl⟩
  | false =>
    rw [h] at h1
    cases k : less y x with
    | true =>
      rw [k] at h2
      go_enter Try.func43, Try.ntmps43
      go_wp2_with (first | (go_at_call 11; with_reducible refine h1.mono ?_; rintro e w1 ⟨rfl, rfl⟩) | (go_at_call 11; with_reducible refine h2.mono ?_; rintro e w1 ⟨rfl, rfl⟩))
      go_ret
      exact ⟨rfl, rfl⟩
    | false =>
      rw [k] at h2
      go_enter Try.func43, Try.ntmps43
      go_wp2_with (first | (go_at_call 11; with_reducible refine h1.mono ?_; rintro e w1 ⟨rfl, rfl⟩) | (go_at_call 11; with_reducible refine h2.mono ?_; rintro e w1 ⟨rfl, rfl⟩))
      go_ret
      exact ⟨rfl, rfl⟩
/-- What a sorting function leaves: the row with places exchanged. -/
structure Do (w w' : World) (g : Nat) (d : List Nat) : Prop where
  row : Rw w' g d
  bt : Bt g w w'
theorem swap_do {w : World} {g : Nat} {d : List Nat} (h : Rw w g d) (i j : Nat) : Do w ((w.setCell ⟨g, i, none⟩ (.float .f64 (d.getD j 0))).setCell ⟨g, j, none⟩ (.float .f64 (d.getD i 0))).drew g (swp 0 d i j) :=
  ⟨((h.set i _).set j _).drew, (((Bt.refl g w).set i _).set j _).drew⟩
set_option maxHeartbeats 4000000 in
theorem swapRange (cm : Value) (X P Z Q Y : List Nat) (n c g : Nat) (w : World) (hw : Rw w g (X ++ (P ++ (Z ++ (Q ++ Y))))) (hP : P.length = n) (hQ : Q.length = n) (N : Nat) (hN : X.length + n + Z.length + n ≤ N) (hNd : N ≤ (X ++ (P ++ (Z ++ (Q ++ Y)))).length) (hs : N ≤ 1000000) (a b : Int) (ha : a = X.length) (hb : b = (X.length + n + Z.length : Nat)) :
    Calls Try.prog 49 #[.slice (some ⟨g, 0, none⟩) N c, .int .i64 a, .int .i64 b, .int .i64 n, cm] w fun e w' => e = .returned (.tuple #[]) ∧ Do w w' g (X ++ (Q ++ (Z ++ (P ++ Y)))) := by
  have hw0 : Rw w g (stq X P Z Q Y 0) := by rw [stq_zero]; exact hw
  have HW0 := hid hw0
  have HP := hid (show P.length = n ∧ Q.length = n from ⟨hP, hQ⟩)
  have HN := hid (show X.length + n + Z.length + n ≤ N ∧ N ≤ 1000000 ∧ N ≤ (X ++ (P ++ (Z ++ (Q ++ Y)))).length from ⟨hN, hs, hNd⟩)
  have HA := hid (show a = X.length ∧ b = (X.length + n + Z.length : Nat) from ⟨ha, hb⟩)
  clear hw0 hw hP hQ hN hNd hs ha hb
  go_enter Try.func49, Try.ntmps49
  go_wp2
  go_loopg [10] (n + 1) (fun kq v10 w' => ∃ i : Nat, v10 = .int .i64 (i : Int) ∧ Hid (i + kq = n + 1 ∧ i ≤ n) ∧ Hid (Do w w' g (stq X P Z Q Y i)))
  case atStart => exact ⟨0, rfl, hid ⟨by omega, by omega⟩, hid ⟨HW0.out, Bt.refl _ _⟩⟩
  case round =>
    obtain ⟨i, rfl, HI, HD⟩ := hrel
    have hi := HI.out.2
    cases gk with
    | zero => exact absurd HI.out.1 (by omega)
    | succ k1 =>
      by_cases ci : i < n
      · have c4b0 : decide (i < n) = true := decide_eq_true ci
        have hst := stq_step 0 X P Z Q Y n HP.out.1 HP.out.2 i ci
        obtain ⟨d, hd⟩ : ∃ d, stq X P Z Q Y i = d := ⟨_, rfl⟩
        have hdl : d.length = (X ++ (P ++ (Z ++ (Q ++ Y)))).length := by
          have h1 := HP.out
          rw [← hd]; unfold stq; simp only [List.length_append, List.length_take, List.length_drop]; omega
        rw [hd] at HD hst
        obtain ⟨ai, hai⟩ : ∃ ai, X.length + i = ai := ⟨_, rfl⟩
        obtain ⟨bi, hbi⟩ : ∃ bi, X.length + n + Z.length + i = bi := ⟨_, rfl⟩
        rw [hai, hbi] at hst
        have hsw := swap_do HD.out.row ai bi
        rw [hst] at hsw
        have HSW := hid hsw
        have ca := HD.out.row.cell ai (by have := HN.out; omega)
        have cb := HD.out.row.cell bi (by have := HN.out; omega)
        have fa := HD.out.row.frozen ai
        have fb := HD.out.row.frozen bi
        have fb2 := (HD.out.row.set ai (d.getD bi 0)).frozen bi
        obtain ⟨va, hva⟩ : ∃ va, d.getD ai 0 = va := ⟨_, rfl⟩
        obtain ⟨vb, hvb⟩ : ∃ vb, d.getD bi 0 = vb := ⟨_, rfl⟩
        have hab : ai ≠ bi := by omega
        rw [hva] at ca HSW
        rw [hvb] at cb HSW fb2
        obtain ⟨AI, hAI⟩ : ∃ AI : Int, (ai : Int) = AI := ⟨_, rfl⟩
        obtain ⟨BI, hBI⟩ : ∃ BI : Int, (bi : Int) = BI := ⟨_, rfl⟩
        have w1 : IntKind.i64.wrap (a + (i : Int)) = AI := by have := HN.out; have := HA.out; rw [i64_small _ (by omega) (by omega)]; omega
        have w2 : IntKind.i64.wrap (b + (i : Int)) = BI := by have := HN.out; have := HA.out; rw [i64_small _ (by omega) (by omega)]; omega
        have w3 : wrap64 (a + (i : Int)) = AI := by rw [← wrap_i64_is]; exact w1
        have w4 : wrap64 (b + (i : Int)) = BI := by rw [← wrap_i64_is]; exact w2
        have t1 : AI.toNat = ai := by omega
        have t2 : BI.toNat = bi := by omega
        have p1 : 0 ≤ AI := by omega
        have p2 : 0 ≤ BI := by omega
        have q1 : AI < (N : Int) := by have := HN.out; omega
        have q2 : BI < (N : Int) := by have := HN.out; omega
        have HWI : Hid (wrap64 ((i : Int) + 1) = ((i + 1 : Nat) : Int)) := hid (by
          have := HN.out
          rw [wrap_small _ (by omega) (by omega)]; rfl)
        have HHD := hid HD.out.bt
        clear hst hsw hd hdl hai hbi hva hvb hAI hBI
        go_upto_region 3 with fail
        go_region
        go_wp2
        go_roundg k1
        case measure => omega
        case rel => exact ⟨i + 1, congrArg (Value.int .i64) HWI.out, hid ⟨by have := HI.out.1; omega, by omega⟩, hid ⟨HSW.out.row, HHD.out.trans HSW.out.bt⟩⟩
      · have c4b0 : decide (i < n) = false := decide_eq_false ci
        have HE : Hid (stq X P Z Q Y i = X ++ (Q ++ (Z ++ (P ++ Y)))) := hid (by rw [show i = n by omega]; exact stq_all X P Z Q Y n HP.out.1 HP.out.2)
        go_wp2
        exact ⟨rfl, .tuple #[], by simp [results, Try.results49], rfl, by rw [← HE.out]; exact HD.out⟩
end Go.Proofs.Ytebfnmhpmgjoiaa.Fl
