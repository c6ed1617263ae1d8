/- math/bits.TrailingZeros64 at the seat's dump. -/
import Derived.Test.YtlojhiacaleokaaDoorProg
import Derived.Shelf.Spec.TrailingZeros
import Derived.Lib.LaidTab
import Derived.Lib.AppendIntMem
import Derived.WalkKit
namespace Go.Proofs.YtlojhiacaleokaaDoor.Tz
open Go.RowKit
set_option maxHeartbeats 1000000 in
theorem core (x k idx : Nat) (w : World) (hx0 : ((x : Int) == 0) = false)
    (key : IntKind.u64.wrap (bits BinOp.and IntKind.u64 (x : Int) (IntKind.u64.wrap (-(x : Int))) * 285870213051353865) / 288230376151711744 = (idx : Int))
    (hi : idx < 64) (hk : k < 64) (hcell : w.cell? ⟨0, idx, none⟩ = some (.int .u8 k)) :
    Calls Tryd.prog 22 #[.int .u64 x] w fun e w' => e = .returned (.int .i64 k) ∧ w' = w := by
  go_enter Tryd.func22, Tryd.ntmps22
  go_wp2_with (simp only [key])
  go_ret
  exact ⟨rfl, rfl⟩
theorem zero (w : World) : Calls Tryd.prog 22 #[.int .u64 0] w fun e w' => e = .returned (.int .i64 64) ∧ w' = w := by
  go_enter Tryd.func22, Tryd.ntmps22
  go_wp2
  go_ret
  exact ⟨rfl, rfl⟩
/-- The library's table. -/
def tab : List Int := Lib.deBruijn64tab.map fun (n : Nat) => (n : Int)
def Tb (w : World) : Prop := Lib.TabIs Tryd.prog w "math/bits.deBruijn64tab" .u8 tab
theorem Tb_below {w w' : World} (h : Tb w) (hb : Below w.heap.size w w') : Tb w' := (Lib.tabBelow_of_tabIs h) w' hb
theorem named : Tryd.prog.globalNamed "math/bits.deBruijn64tab" = some 0 := by kernel_rfl
theorem Tb_at {w : World} (h : Tb w) (j : Nat) (hj : j < 64) : w.cell? ⟨0, j, none⟩ = some (.int .u8 (Lib.deBruijn64tab.getD j 0 : Nat)) := by
  have hl : tab.length = 64 := by decide
  have hc := h.cell named j (by rw [hl]; exact hj)
  rw [hc]
  congr 2
  simp only [tab, List.getD_eq_getElem?_getD, List.getElem?_map]
  cases Lib.deBruijn64tab[j]? <;> rfl
/-- math/bits.TrailingZeros64, every number. -/
theorem tz (x : Nat) (hx : x < 18446744073709551616) (w : World) (hT : Tb w) :
    Calls Tryd.prog 22 #[.int .u64 x] w fun e w' => e = .returned (.int .i64 (Lib.ctz 64 x)) ∧ w' = w := by
  by_cases hx0 : x = 0
  · subst hx0
    exact zero w
  · obtain ⟨hlow, hk⟩ := Lib.lowest_bit 64 x hx0 hx
    obtain ⟨hi, htab⟩ := Lib.deBruijn64_at _ hk
    have hcell := Tb_at hT _ hi
    rw [htab] at hcell
    exact core x _ _ w (by simp; omega) (tz64_key x _ hx hx0 hlow) hi hk hcell
end Go.Proofs.YtlojhiacaleokaaDoor.Tz
