/- palloc: the Pages object; within, Has, Free. -/
import Derived.Test.YtlojhiacaleokaaDoorTz
import Derived.Laws.Tables
import Derived.Tactics
import Derived.Below
namespace Go.Proofs.YtlojhiacaleokaaDoor.Pa
open Go.RowKit
set_option linter.unusedVariables false
set_option linter.unusedSimpArgs false
/-- Of the old blocks b and g alone may be others. -/
structure Fr (b g : Nat) (x y : World) : Prop where
  os : y.os = x.os
  tape : y.tape = x.tape
  output : y.output = x.output
  size : x.heap.size ≤ y.heap.size
  rest : ∀ k, k < x.heap.size → k ≠ b → k ≠ g → y.heap[k]? = x.heap[k]?
theorem Fr.refl (b g : Nat) (x : World) : Fr b g x x := ⟨rfl, rfl, rfl, Nat.le_refl _, fun _ _ _ _ => rfl⟩
theorem Fr.trans {b g : Nat} {x y z : World} (h : Fr b g x y) (k : Fr b g y z) : Fr b g x z :=
  ⟨k.os.trans h.os, k.tape.trans h.tape, k.output.trans h.output, Nat.le_trans h.size k.size, fun j hj h1 h2 => (k.rest j (Nat.lt_of_lt_of_le hj h.size) h1 h2).trans (h.rest j hj h1 h2)⟩
theorem Fr.drew {b g : Nat} {x y : World} (h : Fr b g x y) : Fr b g x y.drew := ⟨h.os, h.tape, h.output, h.size, h.rest⟩
theorem Fr.setb {b g : Nat} {x y : World} (h : Fr b g x y) (j : Nat) (v : Value) : Fr b g x (y.setCell ⟨b, j, none⟩ v) :=
  ⟨h.os, h.tape, h.output, by simpa using h.size, fun k hk h1 h2 => (Below.heap_setCell y ⟨b, j, none⟩ v k h1).trans (h.rest k hk h1 h2)⟩
theorem Fr.setg {b g : Nat} {x y : World} (h : Fr b g x y) (j : Nat) (v : Value) : Fr b g x (y.setCell ⟨g, j, none⟩ v) :=
  ⟨h.os, h.tape, h.output, by simpa using h.size, fun k hk h1 h2 => (Below.heap_setCell y ⟨g, j, none⟩ v k h2).trans (h.rest k hk h1 h2)⟩
theorem Fr.of {b g : Nat} {x y : World} (h : Below x.heap.size x y) : Fr b g x y := ⟨h.os, h.tape, h.output, h.size, fun k hk _ _ => h.block k hk⟩
theorem Fr.below {b g : Nat} {x y : World} (h : Fr b g x y) {B : Nat} (h0 : B ≤ x.heap.size) (h1 : B ≤ b) (h2 : B ≤ g) : Below B x y :=
  ⟨h.os, h.tape, h.output, h.size, fun k hk => h.rest k (by omega) (by omega) (by omega)⟩
/-- The object in block b, its words in block g. -/
structure Pg (w : World) (b g : Nat) (n free : Int) (xs : List Nat) : Prop where
  obj : w.heap[b]? = some (.cells #[.int .i64 n, .int .i64 free, .slice (some ⟨g, 0, none⟩) xs.length xs.length] 48 (0, 0))
  row : w.heap[g]? = some (.cells (xs.map fun x : Nat => Value.int .u64 x).toArray 50 (0, 0))
  ne : b ≠ g
  len : (xs.length : Int) = n / 64 + 1
  n0 : 0 ≤ n
  n1 : n ≤ 1048576
  lt : ∀ x ∈ xs, x < 18446744073709551616
theorem Pg.cell {w : World} {b g : Nat} {n free : Int} {xs : List Nat} (h : Pg w b g n free xs) (j : Nat) (hj : j < xs.length) : w.cell? ⟨g, j, none⟩ = some (.int .u64 (xs[j] : Nat)) := by
  rw [cell_of_row w g j _ _ _ h.row]
  simp [hj]
theorem Pg.c0 {w : World} {b g : Nat} {n free : Int} {xs : List Nat} (h : Pg w b g n free xs) : w.cell? ⟨b, 0, none⟩ = some (.int .i64 n) := by
  rw [cell_of_row w b 0 _ _ _ h.obj]; rfl
theorem Pg.c1 {w : World} {b g : Nat} {n free : Int} {xs : List Nat} (h : Pg w b g n free xs) : w.cell? ⟨b, 1, none⟩ = some (.int .i64 free) := by
  rw [cell_of_row w b 1 _ _ _ h.obj]; rfl
theorem Pg.c2 {w : World} {b g : Nat} {n free : Int} {xs : List Nat} (h : Pg w b g n free xs) : w.cell? ⟨b, 2, none⟩ = some (.slice (some ⟨g, 0, none⟩) xs.length xs.length) := by
  rw [cell_of_row w b 2 _ _ _ h.obj]; rfl
/-- Whether there is such a page. -/
def wi (n i : Int) : Bool := decide (1 ≤ i) && decide (i ≤ n)
/-- Whether the page is used. -/
def has (n : Int) (xs : List Nat) (i : Int) : Bool := wi n i && (xs.getD (i / 64).toNat 0).testBit (i % 64).toNat
theorem within {w : World} {b g : Nat} {n free : Int} {xs : List Nat} (h : Pg w b g n free xs) (i : Int) :
    Calls Tryd.prog 24 #[.pointer (some ⟨b, 0, none⟩), .int .i64 i] w fun e w' => e = .returned (.bool (wi n i)) ∧ w' = w := by
  have h0 := h.c0
  clear h
  by_cases c1 : 1 ≤ i
  · have d1 : decide (1 ≤ i) = true := decide_eq_true c1
    unfold wi
    rw [d1]
    go_enter Tryd.func24, Tryd.ntmps24
    go_wp2
    go_ret
    exact ⟨rfl, rfl⟩
  · have d1 : decide (1 ≤ i) = false := decide_eq_false c1
    unfold wi
    rw [d1]
    go_enter Tryd.func24, Tryd.ntmps24
    go_wp2
    go_ret
    exact ⟨rfl, rfl⟩
theorem within_nil (w : World) (i : Int) : Calls Tryd.prog 24 #[.pointer none, .int .i64 i] w fun e w' => e = .returned (.bool false) ∧ w' = w := by
  go_enter Tryd.func24, Tryd.ntmps24
  go_wp2
  go_ret
  exact ⟨rfl, rfl⟩
theorem free_ {w : World} {b g : Nat} {n free : Int} {xs : List Nat} (h : Pg w b g n free xs) :
    Calls Tryd.prog 9 #[.pointer (some ⟨b, 0, none⟩)] w fun e w' => e = .returned (.int .i64 free) ∧ w' = w := by
  have h1 := h.c1
  clear h
  go_enter Tryd.func9, Tryd.ntmps9
  go_wp2
  go_ret
  exact ⟨rfl, rfl⟩
theorem free_nil (w : World) : Calls Tryd.prog 9 #[.pointer none] w fun e w' => e = .returned (.int .i64 0) ∧ w' = w := by
  go_enter Tryd.func9, Tryd.ntmps9
  go_wp2
  go_ret
  exact ⟨rfl, rfl⟩
end Go.Proofs.YtlojhiacaleokaaDoor.Pa
