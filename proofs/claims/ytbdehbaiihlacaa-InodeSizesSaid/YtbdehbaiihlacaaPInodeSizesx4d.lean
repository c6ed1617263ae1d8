-- Written by a program of this session: the printer, with contracts put in that were proved by hand. Lean checks it.
import Derived.Test.YtbdehbaiihlacaaPInodeSizesx0
import Derived.Test.YtbdehbaiihlacaaPInodeSizesx1
import Derived.Test.YtbdehbaiihlacaaPInodeSizesx2
import Derived.Test.YtbdehbaiihlacaaPInodeSizesx3
namespace Go.Proofs.Ytbdehbaiihlacaa.PInodeSizes
open Go.RowKit Go.Proofs.YtbdehbaiihlacaaW.PrintWords Go.Proofs.YtbdehbaiihlacaaW.PrintLast Go.Proofs.YtbdehbaiihlacaaW.PrintMore
attribute [local go_sem] L.setCell_drewN max2_int min2_int max_two min_two max_three min_three max_four min_four   -- for this text's walks alone
set_option linter.unusedVariables false
set_option linter.unusedSimpArgs false

/-! ### sumplaw14_InodeSizes: function 4 -/
mutual
def sumplaw14_InodeSizes.j0 : Nat → Int → Int → Bool → Int → Int → Int → Int → Int → List Int → List (S62) → Option (Bool)
  | 0, _, _, _, _, _, _, _, _, _, _ => none
  | k + 1, x1, x2, x44, x162000, x162001, x162002, x162003, x162004, x162005, x162006 => if x44 = true then (some true) else ((inode_Resize.f k x162000 x162001 x162002 x162003 x162004 x162005 x162006 x1).bind fun bt165 => ((inode_Resize.f k bt165.1 bt165.2.1 bt165.2.2.1 bt165.2.2.2.1 bt165.2.2.2.2.1 bt165.2.2.2.2.2.1 bt165.2.2.2.2.2.2.1 x2).bind fun bt180 => ((inode_Right.f k bt165.1 bt165.2.1 bt165.2.2.1 bt165.2.2.2.1 bt165.2.2.2.2.1 bt165.2.2.2.2.2.1 bt165.2.2.2.2.2.2.1).bind fun t195 => (if t195 = true then ((inode_Right.f k bt180.1 bt180.2.1 bt180.2.2.1 bt180.2.2.2.1 bt180.2.2.2.2.1 bt180.2.2.2.2.2.1 bt180.2.2.2.2.2.2.1).bind fun t196 => (if t196 = true then (if (bt180.2.2.2.2.2.2.2.length : Int) > 0 then (sumplaw14_InodeSizes.j1 k bt165.2.2.2.2.2.2.2 true x162000 x162001 x162002 x162003 x162004 x162005 x162006 bt165.1 bt165.2.1 bt165.2.2.1 bt165.2.2.2.1 bt165.2.2.2.2.1 bt165.2.2.2.2.2.1 bt165.2.2.2.2.2.2.1 bt180.1 bt180.2.1 bt180.2.2.1 bt180.2.2.2.1 bt180.2.2.2.2.1 bt180.2.2.2.2.2.1 bt180.2.2.2.2.2.2.1) else (sumplaw14_InodeSizes.j1 k bt165.2.2.2.2.2.2.2 (bt180.2.2.2.1 != x2) x162000 x162001 x162002 x162003 x162004 x162005 x162006 bt165.1 bt165.2.1 bt165.2.2.1 bt165.2.2.2.1 bt165.2.2.2.2.1 bt165.2.2.2.2.2.1 bt165.2.2.2.2.2.2.1 bt180.1 bt180.2.1 bt180.2.2.1 bt180.2.2.2.1 bt180.2.2.2.2.1 bt180.2.2.2.2.2.1 bt180.2.2.2.2.2.2.1)) else (sumplaw14_InodeSizes.j1 k bt165.2.2.2.2.2.2.2 true x162000 x162001 x162002 x162003 x162004 x162005 x162006 bt165.1 bt165.2.1 bt165.2.2.1 bt165.2.2.2.1 bt165.2.2.2.2.1 bt165.2.2.2.2.2.1 bt165.2.2.2.2.2.2.1 bt180.1 bt180.2.1 bt180.2.2.1 bt180.2.2.2.1 bt180.2.2.2.2.1 bt180.2.2.2.2.2.1 bt180.2.2.2.2.2.2.1))) else (sumplaw14_InodeSizes.j1 k bt165.2.2.2.2.2.2.2 true x162000 x162001 x162002 x162003 x162004 x162005 x162006 bt165.1 bt165.2.1 bt165.2.2.1 bt165.2.2.2.1 bt165.2.2.2.2.1 bt165.2.2.2.2.2.1 bt165.2.2.2.2.2.2.1 bt180.1 bt180.2.1 bt180.2.2.1 bt180.2.2.2.1 bt180.2.2.2.2.1 bt180.2.2.2.2.2.1 bt180.2.2.2.2.2.2.1)))))
def sumplaw14_InodeSizes.j1 : Nat → List Int → Bool → Int → Int → Int → Int → Int → List Int → List (S62) → Int → Int → Int → Int → Int → List Int → List (S62) → Int → Int → Int → Int → Int → List Int → List (S62) → Option (Bool)
  | 0, _, _, _, _, _, _, _, _, _, _, _, _, _, _, _, _, _, _, _, _, _, _, _ => none
  | k + 1, x8, x75, x162000, x162001, x162002, x162003, x162004, x162005, x162006, x180000, x180001, x180002, x180003, x180004, x180005, x180006, x195000, x195001, x195002, x195003, x195004, x195005, x195006 => if x75 = true then (some false) else (sumplaw14_InodeSizes.l0 k x8 x195005 (x195005.length : Int) 0 x162000 x162001 x162002 x162003 x162004 x162005 x162006 x180000 x180001 x180002 x180003 x180004 x180005 x180006)
def sumplaw14_InodeSizes.l0 : Nat → List Int → List Int → Int → Int → Int → Int → Int → Int → Int → List Int → List (S62) → Int → Int → Int → Int → Int → List Int → List (S62) → Option (Bool)
  | 0, _, _, _, _, _, _, _, _, _, _, _, _, _, _, _, _, _, _ => none
  | k + 1, x8, x77, x78, x79, x162000, x162001, x162002, x162003, x162004, x162005, x162006, x180000, x180001, x180002, x180003, x180004, x180005, x180006 => if x79 < x78 then (if 0 ≤ x79 then (if x79 < (x77.length : Int) then (if x79 < (x180005.length : Int) then (if (rd x77 x79) = (rd x180005 x79) then (if x79 ≥ (x180005.length : Int) then (if (rd x77 x79) = 0 then (sumplaw14_InodeSizes.l0 k x8 x77 x78 (wrap64 (x79 + 1)) x162000 x162001 x162002 x162003 x162004 x162005 x162006 x180000 x180001 x180002 x180003 x180004 x180005 x180006) else (some false)) else (sumplaw14_InodeSizes.l0 k x8 x77 x78 (wrap64 (x79 + 1)) x162000 x162001 x162002 x162003 x162004 x162005 x162006 x180000 x180001 x180002 x180003 x180004 x180005 x180006)) else (some false)) else (if x79 ≥ (x180005.length : Int) then (if (rd x77 x79) = 0 then (sumplaw14_InodeSizes.l0 k x8 x77 x78 (wrap64 (x79 + 1)) x162000 x162001 x162002 x162003 x162004 x162005 x162006 x180000 x180001 x180002 x180003 x180004 x180005 x180006) else (some false)) else (sumplaw14_InodeSizes.l0 k x8 x77 x78 (wrap64 (x79 + 1)) x162000 x162001 x162002 x162003 x162004 x162005 x162006 x180000 x180001 x180002 x180003 x180004 x180005 x180006))) else (none)) else (none)) else ((inode_Refs.f x180000 x180001 x180002 x180003 x180004 x180005 x180006).bind fun t199 => ((inode_Refs.f x162000 x162001 x162002 x162003 x162004 x162005 x162006).bind fun t202 => (some ((wrap64 ((t199.length : Int) + (x8.length : Int))) == (t202.length : Int)))))
end
def sumplaw14_InodeSizes.f (k : Nat) (a0_0 : Int) (a0_1 : Int) (a0_2 : Int) (a0_3 : Int) (a0_4 : Int) (l0_5 : List Int) (l0_6 : List (S62)) (a1 : Int) (a2 : Int) : Option (Bool) := (sumplaw14_awake.f k).bind fun t162 => (if t162 = true then ((sumplaw14_Few.f k a0_0 a0_1 a0_2 a0_3 a0_4 l0_5 l0_6).bind fun t163 => (if t163 = true then ((inode_Right.f k a0_0 a0_1 a0_2 a0_3 a0_4 l0_5 l0_6).bind fun t164 => (if t164 = true then (if a0_1 = 1 then (if a1 < 0 then (sumplaw14_InodeSizes.j0 k a1 a2 true a0_0 a0_1 a0_2 a0_3 a0_4 l0_5 l0_6) else (if a1 > 16384 then (sumplaw14_InodeSizes.j0 k a1 a2 true a0_0 a0_1 a0_2 a0_3 a0_4 l0_5 l0_6) else (if a2 < a1 then (sumplaw14_InodeSizes.j0 k a1 a2 true a0_0 a0_1 a0_2 a0_3 a0_4 l0_5 l0_6) else (sumplaw14_InodeSizes.j0 k a1 a2 (decide (a2 > 16384)) a0_0 a0_1 a0_2 a0_3 a0_4 l0_5 l0_6)))) else (sumplaw14_InodeSizes.j0 k a1 a2 true a0_0 a0_1 a0_2 a0_3 a0_4 l0_5 l0_6)) else (sumplaw14_InodeSizes.j0 k a1 a2 true a0_0 a0_1 a0_2 a0_3 a0_4 l0_5 l0_6))) else (sumplaw14_InodeSizes.j0 k a1 a2 true a0_0 a0_1 a0_2 a0_3 a0_4 l0_5 l0_6))) else (some false))
theorem sumplaw14_InodeSizes.mono_l : ∀ k, (∀ y0 y1 y2 y3 y4 y5 y6 y7 y8 y9, LeO (sumplaw14_InodeSizes.j0 k y0 y1 y2 y3 y4 y5 y6 y7 y8 y9) (sumplaw14_InodeSizes.j0 (k + 1) y0 y1 y2 y3 y4 y5 y6 y7 y8 y9)) ∧ (∀ y0 y1 y2 y3 y4 y5 y6 y7 y8 y9 y10 y11 y12 y13 y14 y15 y16 y17 y18 y19 y20 y21 y22, LeO (sumplaw14_InodeSizes.j1 k y0 y1 y2 y3 y4 y5 y6 y7 y8 y9 y10 y11 y12 y13 y14 y15 y16 y17 y18 y19 y20 y21 y22) (sumplaw14_InodeSizes.j1 (k + 1) y0 y1 y2 y3 y4 y5 y6 y7 y8 y9 y10 y11 y12 y13 y14 y15 y16 y17 y18 y19 y20 y21 y22)) ∧ (∀ y0 y1 y2 y3 y4 y5 y6 y7 y8 y9 y10 y11 y12 y13 y14 y15 y16 y17, LeO (sumplaw14_InodeSizes.l0 k y0 y1 y2 y3 y4 y5 y6 y7 y8 y9 y10 y11 y12 y13 y14 y15 y16 y17) (sumplaw14_InodeSizes.l0 (k + 1) y0 y1 y2 y3 y4 y5 y6 y7 y8 y9 y10 y11 y12 y13 y14 y15 y16 y17))
  | 0 => ⟨fun _ _ _ _ _ _ _ _ _ _ r h => by simp [sumplaw14_InodeSizes.j0] at h, fun _ _ _ _ _ _ _ _ _ _ _ _ _ _ _ _ _ _ _ _ _ _ _ r h => by simp [sumplaw14_InodeSizes.j1] at h, fun _ _ _ _ _ _ _ _ _ _ _ _ _ _ _ _ _ _ r h => by simp [sumplaw14_InodeSizes.l0] at h⟩
  | k + 1 => by
    obtain ⟨ih0, ih1, ih2⟩ := sumplaw14_InodeSizes.mono_l k
    refine ⟨?_, ?_, ?_⟩
    · intro y0 y1 y2 y3 y4 y5 y6 y7 y8 y9
      unfold sumplaw14_InodeSizes.j0
      repeat' first
      | (with_reducible exact ih0 _ _ _ _ _ _ _ _ _ _)
      | (with_reducible exact ih1 _ _ _ _ _ _ _ _ _ _ _ _ _ _ _ _ _ _ _ _ _ _ _)
      | (with_reducible exact ih2 _ _ _ _ _ _ _ _ _ _ _ _ _ _ _ _ _ _)
      | (with_reducible exact inode_Resize.mono _ _ _ _ _ _ _ _ _)
      | (with_reducible exact inode_Right.mono _ _ _ _ _ _ _ _)
      | (with_reducible exact sumplaw14_Few.mono _ _ _ _ _ _ _ _)
      | (with_reducible exact sumplaw14_awake.mono _)
      | (with_reducible exact LeO.refl _)
      | (with_reducible exact LeO.none _)
      | (with_reducible refine LeO.ite ?_ ?_)
      | (with_reducible refine LeO.bind ?_ (fun _ => ?_))
      | exact ih0 _ _ _ _ _ _ _ _ _ _
      | exact ih1 _ _ _ _ _ _ _ _ _ _ _ _ _ _ _ _ _ _ _ _ _ _ _
      | exact ih2 _ _ _ _ _ _ _ _ _ _ _ _ _ _ _ _ _ _
      | exact inode_Resize.mono _ _ _ _ _ _ _ _ _
      | exact inode_Right.mono _ _ _ _ _ _ _ _
      | exact sumplaw14_Few.mono _ _ _ _ _ _ _ _
      | exact sumplaw14_awake.mono _
      | exact LeO.none _
      | refine LeO.ite ?_ ?_
      | refine LeO.bind ?_ (fun _ => ?_)
    · intro y0 y1 y2 y3 y4 y5 y6 y7 y8 y9 y10 y11 y12 y13 y14 y15 y16 y17 y18 y19 y20 y21 y22
      unfold sumplaw14_InodeSizes.j1
      repeat' first
      | (with_reducible exact ih0 _ _ _ _ _ _ _ _ _ _)
      | (with_reducible exact ih1 _ _ _ _ _ _ _ _ _ _ _ _ _ _ _ _ _ _ _ _ _ _ _)
      | (with_reducible exact ih2 _ _ _ _ _ _ _ _ _ _ _ _ _ _ _ _ _ _)
      | (with_reducible exact inode_Resize.mono _ _ _ _ _ _ _ _ _)
      | (with_reducible exact inode_Right.mono _ _ _ _ _ _ _ _)
      | (with_reducible exact sumplaw14_Few.mono _ _ _ _ _ _ _ _)
      | (with_reducible exact sumplaw14_awake.mono _)
      | (with_reducible exact LeO.refl _)
      | (with_reducible exact LeO.none _)
      | (with_reducible refine LeO.ite ?_ ?_)
      | (with_reducible refine LeO.bind ?_ (fun _ => ?_))
      | exact ih0 _ _ _ _ _ _ _ _ _ _
      | exact ih1 _ _ _ _ _ _ _ _ _ _ _ _ _ _ _ _ _ _ _ _ _ _ _
      | exact ih2 _ _ _ _ _ _ _ _ _ _ _ _ _ _ _ _ _ _
      | exact inode_Resize.mono _ _ _ _ _ _ _ _ _
      | exact inode_Right.mono _ _ _ _ _ _ _ _
      | exact sumplaw14_Few.mono _ _ _ _ _ _ _ _
      | exact sumplaw14_awake.mono _
      | exact LeO.none _
      | refine LeO.ite ?_ ?_
      | refine LeO.bind ?_ (fun _ => ?_)
    · intro y0 y1 y2 y3 y4 y5 y6 y7 y8 y9 y10 y11 y12 y13 y14 y15 y16 y17
      unfold sumplaw14_InodeSizes.l0
      repeat' first
      | (with_reducible exact ih0 _ _ _ _ _ _ _ _ _ _)
      | (with_reducible exact ih1 _ _ _ _ _ _ _ _ _ _ _ _ _ _ _ _ _ _ _ _ _ _ _)
      | (with_reducible exact ih2 _ _ _ _ _ _ _ _ _ _ _ _ _ _ _ _ _ _)
      | (with_reducible exact inode_Resize.mono _ _ _ _ _ _ _ _ _)
      | (with_reducible exact inode_Right.mono _ _ _ _ _ _ _ _)
      | (with_reducible exact sumplaw14_Few.mono _ _ _ _ _ _ _ _)
      | (with_reducible exact sumplaw14_awake.mono _)
      | (with_reducible exact LeO.refl _)
      | (with_reducible exact LeO.none _)
      | (with_reducible refine LeO.ite ?_ ?_)
      | (with_reducible refine LeO.bind ?_ (fun _ => ?_))
      | exact ih0 _ _ _ _ _ _ _ _ _ _
      | exact ih1 _ _ _ _ _ _ _ _ _ _ _ _ _ _ _ _ _ _ _ _ _ _ _
      | exact ih2 _ _ _ _ _ _ _ _ _ _ _ _ _ _ _ _ _ _
      | exact inode_Resize.mono _ _ _ _ _ _ _ _ _
      | exact inode_Right.mono _ _ _ _ _ _ _ _
      | exact sumplaw14_Few.mono _ _ _ _ _ _ _ _
      | exact sumplaw14_awake.mono _
      | exact LeO.none _
      | refine LeO.ite ?_ ?_
      | refine LeO.bind ?_ (fun _ => ?_)
theorem sumplaw14_InodeSizes.mono : ∀ a0 a1 a2 a3 a4 a5 a6 a7 a8 k, LeO (sumplaw14_InodeSizes.f k a0 a1 a2 a3 a4 a5 a6 a7 a8) (sumplaw14_InodeSizes.f (k + 1) a0 a1 a2 a3 a4 a5 a6 a7 a8) := by
  intro a0 a1 a2 a3 a4 a5 a6 a7 a8 k
  obtain ⟨ih0, ih1, ih2⟩ := sumplaw14_InodeSizes.mono_l k
  unfold sumplaw14_InodeSizes.f
  repeat' first
      | (with_reducible exact ih0 _ _ _ _ _ _ _ _ _ _)
      | (with_reducible exact ih1 _ _ _ _ _ _ _ _ _ _ _ _ _ _ _ _ _ _ _ _ _ _ _)
      | (with_reducible exact ih2 _ _ _ _ _ _ _ _ _ _ _ _ _ _ _ _ _ _)
      | (with_reducible exact inode_Resize.mono _ _ _ _ _ _ _ _ _)
      | (with_reducible exact inode_Right.mono _ _ _ _ _ _ _ _)
      | (with_reducible exact sumplaw14_Few.mono _ _ _ _ _ _ _ _)
      | (with_reducible exact sumplaw14_awake.mono _)
      | (with_reducible exact LeO.refl _)
      | (with_reducible exact LeO.none _)
      | (with_reducible refine LeO.ite ?_ ?_)
      | (with_reducible refine LeO.bind ?_ (fun _ => ?_))
      | exact ih0 _ _ _ _ _ _ _ _ _ _
      | exact ih1 _ _ _ _ _ _ _ _ _ _ _ _ _ _ _ _ _ _ _ _ _ _ _
      | exact ih2 _ _ _ _ _ _ _ _ _ _ _ _ _ _ _ _ _ _
      | exact inode_Resize.mono _ _ _ _ _ _ _ _ _
      | exact inode_Right.mono _ _ _ _ _ _ _ _
      | exact sumplaw14_Few.mono _ _ _ _ _ _ _ _
      | exact sumplaw14_awake.mono _
      | exact LeO.none _
      | refine LeO.ite ?_ ?_
      | refine LeO.bind ?_ (fun _ => ?_)
def sumplaw14_InodeSizes.T15 : Bool × List (List Nat × List Nat) := (true, [([], []), ([0], [0]), ([1], [1]), ([], []), ([3], [3]), ([2, 4], [2, 4]), ([], []), ([6, 1], [6]), ([7], [7]), ([5, 8], [5, 8]), ([9, 7, 0, 1, 2, 3, 4, 5, 6, 7, 8, 9], [9])])
def sumplaw14_InodeSizes.B15 : List Nat := [0, 1, 3, 0, 8, 31, 0, 67, 195, 511, 1023]
theorem sumplaw14_InodeSizes.tab15 : rtab .any (opsOf Try.f4 15) = sumplaw14_InodeSizes.T15 := by kernel_rfl
theorem sumplaw14_InodeSizes.bits15 : waitsOk sumplaw14_InodeSizes.T15.2 sumplaw14_InodeSizes.B15 = true := by kernel_rfl
end Go.Proofs.Ytbdehbaiihlacaa.PInodeSizes
