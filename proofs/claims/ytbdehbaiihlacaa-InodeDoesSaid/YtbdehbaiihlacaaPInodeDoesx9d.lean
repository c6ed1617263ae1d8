-- Written by a program of this session: the printer, with contracts put in that were proved by hand. Lean checks it.
import Derived.Test.YtbdehbaiihlacaaPInodeDoesx0
import Derived.Test.YtbdehbaiihlacaaPInodeDoesx2
import Derived.Test.YtbdehbaiihlacaaPInodeDoesx3
import Derived.Test.YtbdehbaiihlacaaPInodeDoesx4
import Derived.Test.YtbdehbaiihlacaaPInodeDoesx5
import Derived.Test.YtbdehbaiihlacaaPInodeDoesx6
import Derived.Test.YtbdehbaiihlacaaPInodeDoesx7
import Derived.Test.YtbdehbaiihlacaaPInodeDoesx8
namespace Go.Proofs.Ytbdehbaiihlacaa.PInodeDoes
open Go.RowKit Go.Proofs.YtbdehbaiihlacaaW.PrintWords Go.Proofs.YtbdehbaiihlacaaW.PrintLast Go.Proofs.YtbdehbaiihlacaaW.PrintMore
attribute [local go_sem] L.setCell_drewN max2_int min2_int max_two min_two max_three min_three max_four min_four   -- for this text's walks alone
set_option linter.unusedVariables false
set_option linter.unusedSimpArgs false

/-! ### sumplaw14_InodeDoes: function 6 -/
mutual
def sumplaw14_InodeDoes.j0 : Nat → Int → Int → Int → Int → Bool → Int → Int → Int → Int → Int → List Int → List (S62) → Int → Int → Int → Int → Int → List Int → List (S62) → Option (Bool)
  | 0, _, _, _, _, _, _, _, _, _, _, _, _, _, _, _, _, _, _, _ => none
  | k + 1, x2, x3, x4, x5, x30, x229000, x229001, x229002, x229003, x229004, x229005, x229006, x230000, x230001, x230002, x230003, x230004, x230005, x230006 => if x30 = true then (some true) else ((inode_Resize.f k x229000 x229001 x229002 x229003 x229004 x229005 x229006 x2).bind fun bt233 => ((sumpref09_Resize.f k x229000 x229001 x229002 x229003 x229004 x229005 x229006 x2).bind fun bt248 => (sumplaw14_InodeDoes.l0 k x2 x3 x4 x5 bt233.2.2.2.2.2.2.2 bt248.2.2.2.2.2.2.2 ([] : List Int) x229005 (x229005.length : Int) 0 x229000 x229001 x229002 x229003 x229004 x229005 x229006 x230000 x230001 x230002 x230003 x230004 x230005 x230006 bt233.1 bt233.2.1 bt233.2.2.1 bt233.2.2.2.1 bt233.2.2.2.2.1 bt233.2.2.2.2.2.1 bt233.2.2.2.2.2.2.1 bt248.1 bt248.2.1 bt248.2.2.1 bt248.2.2.2.1 bt248.2.2.2.2.1 bt248.2.2.2.2.2.1 bt248.2.2.2.2.2.2.1)))
def sumplaw14_InodeDoes.l0 : Nat → Int → Int → Int → Int → List Int → List Int → List Int → List Int → Int → Int → Int → Int → Int → Int → Int → List Int → List (S62) → Int → Int → Int → Int → Int → List Int → List (S62) → Int → Int → Int → Int → Int → List Int → List (S62) → Int → Int → Int → Int → Int → List Int → List (S62) → Option (Bool)
  | 0, _, _, _, _, _, _, _, _, _, _, _, _, _, _, _, _, _, _, _, _, _, _, _, _, _, _, _, _, _, _, _, _, _, _, _, _, _, _ => none
  | k + 1, x2, x3, x4, x5, x14, x16, x17, x44, x45, x46, x229000, x229001, x229002, x229003, x229004, x229005, x229006, x230000, x230001, x230002, x230003, x230004, x230005, x230006, x248000, x248001, x248002, x248003, x248004, x248005, x248006, x263000, x263001, x263002, x263003, x263004, x263005, x263006 => if x46 < x45 then (if 0 ≤ x46 then (if x46 < (x44.length : Int) then (if (rd x44 x46) = 0 then (sumplaw14_InodeDoes.l0 k x2 x3 x4 x5 x14 x16 x17 x44 x45 (wrap64 (x46 + 1)) x229000 x229001 x229002 x229003 x229004 x229005 x229006 x230000 x230001 x230002 x230003 x230004 x230005 x230006 x248000 x248001 x248002 x248003 x248004 x248005 x248006 x263000 x263001 x263002 x263003 x263004 x263005 x263006) else (if x17.length < 17592186044416 then (sumplaw14_InodeDoes.l0 k x2 x3 x4 x5 x14 x16 (x17 ++ [rd x44 x46]) x44 x45 (wrap64 (x46 + 1)) x229000 x229001 x229002 x229003 x229004 x229005 x229006 x230000 x230001 x230002 x230003 x230004 x230005 x230006 x248000 x248001 x248002 x248003 x248004 x248005 x248006 x263000 x263001 x263002 x263003 x263004 x263005 x263006) else (none))) else (none)) else (none)) else (if x4 = 2 then (sumplaw14_InodeDoes.j2 k x2 x3 x4 x5 x14 x16 x17 x229000 x229001 x229002 x229003 x229004 x229005 x229006 x230000 x230001 x230002 x230003 x230004 x230005 x230006 x248000 x248001 x248002 x248003 x248004 x248005 x248006 x263000 x263001 x263002 x263003 x263004 x263005 x263006 x3 x4 1 0 x5) else (sumplaw14_InodeDoes.j2 k x2 x3 x4 x5 x14 x16 x17 x229000 x229001 x229002 x229003 x229004 x229005 x229006 x230000 x230001 x230002 x230003 x230004 x230005 x230006 x248000 x248001 x248002 x248003 x248004 x248005 x248006 x263000 x263001 x263002 x263003 x263004 x263005 x263006 x3 x4 1 0 0))
def sumplaw14_InodeDoes.j2 : Nat → Int → Int → Int → Int → List Int → List Int → List Int → Int → Int → Int → Int → Int → List Int → List (S62) → Int → Int → Int → Int → Int → List Int → List (S62) → Int → Int → Int → Int → Int → List Int → List (S62) → Int → Int → Int → Int → Int → List Int → List (S62) → Int → Int → Int → Int → Int → Option (Bool)
  | 0, _, _, _, _, _, _, _, _, _, _, _, _, _, _, _, _, _, _, _, _, _, _, _, _, _, _, _, _, _, _, _, _, _, _, _, _, _, _, _, _ => none
  | k + 1, x2, x3, x4, x5, x14, x16, x17, x229000, x229001, x229002, x229003, x229004, x229005, x229006, x230000, x230001, x230002, x230003, x230004, x230005, x230006, x248000, x248001, x248002, x248003, x248004, x248005, x248006, x263000, x263001, x263002, x263003, x263004, x263005, x263006, x268000, x268001, x268002, x268003, x268004 => (sumpref09_SameNode.f k x248000 x248001 x248002 x248003 x248004 x248005 x248006 x263000 x263001 x263002 x263003 x263004 x263005 x263006).bind fun t268 => (if t268 = true then ((sumpref01_SameInts.f k x14 x16).bind fun t269 => (if t269 = true then ((inode_Refs.f x229000 x229001 x229002 x229003 x229004 x229005 x229006).bind fun t270 => ((sumpref01_SameInts.f k t270 x17).bind fun t273 => (if t273 = true then ((inode_Words.f k x229000 x229001 x229002 x229003 x229004 x229005 x229006).bind fun t274 => ((sumpref09_WordsOf.f k x229000 x229001 x229002 x229003 x229004 x229005 x229006).bind fun t275 => (if t274 = t275 then ((inode_Right.f k x229000 x229001 x229002 x229003 x229004 x229005 x229006).bind fun t276 => ((sumpref09_RightNode.f k x229000 x229001 x229002 x229003 x229004 x229005 x229006).bind fun t277 => (if (t276 == t277) = true then ((inode_Same.f k x229000 x229001 x229002 x229003 x229004 x229005 x229006 x230000 x230001 x230002 x230003 x230004 x230005 x230006).bind fun t278 => ((sumpref09_SameNode.f k x229000 x229001 x229002 x229003 x229004 x229005 x229006 x230000 x230001 x230002 x230003 x230004 x230005 x230006).bind fun t279 => (if (t278 == t279) = true then ((inode_Need.f x2).bind fun t280 => ((sumpref09_Need.f x2).bind fun t281 => (if t280 = t281 then ((inode_New.f x3 x4 x5).bind fun bt282 => ((sumpref09_SameNode.f k bt282.1 bt282.2.1 bt282.2.2.1 bt282.2.2.2.1 bt282.2.2.2.2.1 bt282.2.2.2.2.2.1 bt282.2.2.2.2.2.2 x268000 x268001 x268002 x268003 x268004 ([] : List Int) ([] : List (S62))).bind fun t293 => (some t293))) else (some false)))) else (some false)))) else (some false)))) else (some false)))) else (some false)))) else (some false))) else (some false))
end
def sumplaw14_InodeDoes.f (k : Nat) (a0_0 : Int) (a0_1 : Int) (a0_2 : Int) (a0_3 : Int) (a0_4 : Int) (l0_5 : List Int) (l0_6 : List (S62)) (a1_0 : Int) (a1_1 : Int) (a1_2 : Int) (a1_3 : Int) (a1_4 : Int) (l1_5 : List Int) (l1_6 : List (S62)) (a2 : Int) (a3 : Int) (a4 : Int) (a5 : Int) : Option (Bool) := (sumplaw14_awake.f k).bind fun t230 => (if t230 = true then ((sumplaw14_Few.f k a0_0 a0_1 a0_2 a0_3 a0_4 l0_5 l0_6).bind fun t231 => (if t231 = true then ((sumplaw14_Few.f k a1_0 a1_1 a1_2 a1_3 a1_4 l1_5 l1_6).bind fun t232 => (sumplaw14_InodeDoes.j0 k a2 a3 a4 a5 (!t232) a0_0 a0_1 a0_2 a0_3 a0_4 l0_5 l0_6 a1_0 a1_1 a1_2 a1_3 a1_4 l1_5 l1_6)) else (sumplaw14_InodeDoes.j0 k a2 a3 a4 a5 true a0_0 a0_1 a0_2 a0_3 a0_4 l0_5 l0_6 a1_0 a1_1 a1_2 a1_3 a1_4 l1_5 l1_6))) else (some false))
theorem sumplaw14_InodeDoes.mono_l : ∀ k, (∀ y0 y1 y2 y3 y4 y5 y6 y7 y8 y9 y10 y11 y12 y13 y14 y15 y16 y17 y18, LeO (sumplaw14_InodeDoes.j0 k y0 y1 y2 y3 y4 y5 y6 y7 y8 y9 y10 y11 y12 y13 y14 y15 y16 y17 y18) (sumplaw14_InodeDoes.j0 (k + 1) y0 y1 y2 y3 y4 y5 y6 y7 y8 y9 y10 y11 y12 y13 y14 y15 y16 y17 y18)) ∧ (∀ y0 y1 y2 y3 y4 y5 y6 y7 y8 y9 y10 y11 y12 y13 y14 y15 y16 y17 y18 y19 y20 y21 y22 y23 y24 y25 y26 y27 y28 y29 y30 y31 y32 y33 y34 y35 y36 y37, LeO (sumplaw14_InodeDoes.l0 k y0 y1 y2 y3 y4 y5 y6 y7 y8 y9 y10 y11 y12 y13 y14 y15 y16 y17 y18 y19 y20 y21 y22 y23 y24 y25 y26 y27 y28 y29 y30 y31 y32 y33 y34 y35 y36 y37) (sumplaw14_InodeDoes.l0 (k + 1) y0 y1 y2 y3 y4 y5 y6 y7 y8 y9 y10 y11 y12 y13 y14 y15 y16 y17 y18 y19 y20 y21 y22 y23 y24 y25 y26 y27 y28 y29 y30 y31 y32 y33 y34 y35 y36 y37)) ∧ (∀ y0 y1 y2 y3 y4 y5 y6 y7 y8 y9 y10 y11 y12 y13 y14 y15 y16 y17 y18 y19 y20 y21 y22 y23 y24 y25 y26 y27 y28 y29 y30 y31 y32 y33 y34 y35 y36 y37 y38 y39, LeO (sumplaw14_InodeDoes.j2 k y0 y1 y2 y3 y4 y5 y6 y7 y8 y9 y10 y11 y12 y13 y14 y15 y16 y17 y18 y19 y20 y21 y22 y23 y24 y25 y26 y27 y28 y29 y30 y31 y32 y33 y34 y35 y36 y37 y38 y39) (sumplaw14_InodeDoes.j2 (k + 1) y0 y1 y2 y3 y4 y5 y6 y7 y8 y9 y10 y11 y12 y13 y14 y15 y16 y17 y18 y19 y20 y21 y22 y23 y24 y25 y26 y27 y28 y29 y30 y31 y32 y33 y34 y35 y36 y37 y38 y39))
  | 0 => ⟨fun _ _ _ _ _ _ _ _ _ _ _ _ _ _ _ _ _ _ _ r h => by simp [sumplaw14_InodeDoes.j0] at h, fun _ _ _ _ _ _ _ _ _ _ _ _ _ _ _ _ _ _ _ _ _ _ _ _ _ _ _ _ _ _ _ _ _ _ _ _ _ _ r h => by simp [sumplaw14_InodeDoes.l0] at h, fun _ _ _ _ _ _ _ _ _ _ _ _ _ _ _ _ _ _ _ _ _ _ _ _ _ _ _ _ _ _ _ _ _ _ _ _ _ _ _ _ r h => by simp [sumplaw14_InodeDoes.j2] at h⟩
  | k + 1 => by
    obtain ⟨ih0, ih1, ih2⟩ := sumplaw14_InodeDoes.mono_l k
    refine ⟨?_, ?_, ?_⟩
    · intro y0 y1 y2 y3 y4 y5 y6 y7 y8 y9 y10 y11 y12 y13 y14 y15 y16 y17 y18
      unfold sumplaw14_InodeDoes.j0
      repeat' first
      | (with_reducible exact ih0 _ _ _ _ _ _ _ _ _ _ _ _ _ _ _ _ _ _ _)
      | (with_reducible exact ih1 _ _ _ _ _ _ _ _ _ _ _ _ _ _ _ _ _ _ _ _ _ _ _ _ _ _ _ _ _ _ _ _ _ _ _ _ _ _)
      | (with_reducible exact ih2 _ _ _ _ _ _ _ _ _ _ _ _ _ _ _ _ _ _ _ _ _ _ _ _ _ _ _ _ _ _ _ _ _ _ _ _ _ _ _ _)
      | (with_reducible exact inode_Resize.mono _ _ _ _ _ _ _ _ _)
      | (with_reducible exact inode_Right.mono _ _ _ _ _ _ _ _)
      | (with_reducible exact inode_Same.mono _ _ _ _ _ _ _ _ _ _ _ _ _ _ _)
      | (with_reducible exact inode_Words.mono _ _ _ _ _ _ _ _)
      | (with_reducible exact sumplaw14_Few.mono _ _ _ _ _ _ _ _)
      | (with_reducible exact sumplaw14_awake.mono _)
      | (with_reducible exact sumpref01_SameInts.mono _ _ _)
      | (with_reducible exact sumpref09_Resize.mono _ _ _ _ _ _ _ _ _)
      | (with_reducible exact sumpref09_RightNode.mono _ _ _ _ _ _ _ _)
      | (with_reducible exact sumpref09_SameNode.mono _ _ _ _ _ _ _ _ _ _ _ _ _ _ _)
      | (with_reducible exact sumpref09_WordsOf.mono _ _ _ _ _ _ _ _)
      | (with_reducible exact LeO.refl _)
      | (with_reducible exact LeO.none _)
      | (with_reducible refine LeO.ite ?_ ?_)
      | (with_reducible refine LeO.bind ?_ (fun _ => ?_))
      | exact ih0 _ _ _ _ _ _ _ _ _ _ _ _ _ _ _ _ _ _ _
      | exact ih1 _ _ _ _ _ _ _ _ _ _ _ _ _ _ _ _ _ _ _ _ _ _ _ _ _ _ _ _ _ _ _ _ _ _ _ _ _ _
      | exact ih2 _ _ _ _ _ _ _ _ _ _ _ _ _ _ _ _ _ _ _ _ _ _ _ _ _ _ _ _ _ _ _ _ _ _ _ _ _ _ _ _
      | exact inode_Resize.mono _ _ _ _ _ _ _ _ _
      | exact inode_Right.mono _ _ _ _ _ _ _ _
      | exact inode_Same.mono _ _ _ _ _ _ _ _ _ _ _ _ _ _ _
      | exact inode_Words.mono _ _ _ _ _ _ _ _
      | exact sumplaw14_Few.mono _ _ _ _ _ _ _ _
      | exact sumplaw14_awake.mono _
      | exact sumpref01_SameInts.mono _ _ _
      | exact sumpref09_Resize.mono _ _ _ _ _ _ _ _ _
      | exact sumpref09_RightNode.mono _ _ _ _ _ _ _ _
      | exact sumpref09_SameNode.mono _ _ _ _ _ _ _ _ _ _ _ _ _ _ _
      | exact sumpref09_WordsOf.mono _ _ _ _ _ _ _ _
      | exact LeO.none _
      | refine LeO.ite ?_ ?_
      | refine LeO.bind ?_ (fun _ => ?_)
    · intro y0 y1 y2 y3 y4 y5 y6 y7 y8 y9 y10 y11 y12 y13 y14 y15 y16 y17 y18 y19 y20 y21 y22 y23 y24 y25 y26 y27 y28 y29 y30 y31 y32 y33 y34 y35 y36 y37
      unfold sumplaw14_InodeDoes.l0
      repeat' first
      | (with_reducible exact ih0 _ _ _ _ _ _ _ _ _ _ _ _ _ _ _ _ _ _ _)
      | (with_reducible exact ih1 _ _ _ _ _ _ _ _ _ _ _ _ _ _ _ _ _ _ _ _ _ _ _ _ _ _ _ _ _ _ _ _ _ _ _ _ _ _)
      | (with_reducible exact ih2 _ _ _ _ _ _ _ _ _ _ _ _ _ _ _ _ _ _ _ _ _ _ _ _ _ _ _ _ _ _ _ _ _ _ _ _ _ _ _ _)
      | (with_reducible exact inode_Resize.mono _ _ _ _ _ _ _ _ _)
      | (with_reducible exact inode_Right.mono _ _ _ _ _ _ _ _)
      | (with_reducible exact inode_Same.mono _ _ _ _ _ _ _ _ _ _ _ _ _ _ _)
      | (with_reducible exact inode_Words.mono _ _ _ _ _ _ _ _)
      | (with_reducible exact sumplaw14_Few.mono _ _ _ _ _ _ _ _)
      | (with_reducible exact sumplaw14_awake.mono _)
      | (with_reducible exact sumpref01_SameInts.mono _ _ _)
      | (with_reducible exact sumpref09_Resize.mono _ _ _ _ _ _ _ _ _)
      | (with_reducible exact sumpref09_RightNode.mono _ _ _ _ _ _ _ _)
      | (with_reducible exact sumpref09_SameNode.mono _ _ _ _ _ _ _ _ _ _ _ _ _ _ _)
      | (with_reducible exact sumpref09_WordsOf.mono _ _ _ _ _ _ _ _)
      | (with_reducible exact LeO.refl _)
      | (with_reducible exact LeO.none _)
      | (with_reducible refine LeO.ite ?_ ?_)
      | (with_reducible refine LeO.bind ?_ (fun _ => ?_))
      | exact ih0 _ _ _ _ _ _ _ _ _ _ _ _ _ _ _ _ _ _ _
      | exact ih1 _ _ _ _ _ _ _ _ _ _ _ _ _ _ _ _ _ _ _ _ _ _ _ _ _ _ _ _ _ _ _ _ _ _ _ _ _ _
      | exact ih2 _ _ _ _ _ _ _ _ _ _ _ _ _ _ _ _ _ _ _ _ _ _ _ _ _ _ _ _ _ _ _ _ _ _ _ _ _ _ _ _
      | exact inode_Resize.mono _ _ _ _ _ _ _ _ _
      | exact inode_Right.mono _ _ _ _ _ _ _ _
      | exact inode_Same.mono _ _ _ _ _ _ _ _ _ _ _ _ _ _ _
      | exact inode_Words.mono _ _ _ _ _ _ _ _
      | exact sumplaw14_Few.mono _ _ _ _ _ _ _ _
      | exact sumplaw14_awake.mono _
      | exact sumpref01_SameInts.mono _ _ _
      | exact sumpref09_Resize.mono _ _ _ _ _ _ _ _ _
      | exact sumpref09_RightNode.mono _ _ _ _ _ _ _ _
      | exact sumpref09_SameNode.mono _ _ _ _ _ _ _ _ _ _ _ _ _ _ _
      | exact sumpref09_WordsOf.mono _ _ _ _ _ _ _ _
      | exact LeO.none _
      | refine LeO.ite ?_ ?_
      | refine LeO.bind ?_ (fun _ => ?_)
    · intro y0 y1 y2 y3 y4 y5 y6 y7 y8 y9 y10 y11 y12 y13 y14 y15 y16 y17 y18 y19 y20 y21 y22 y23 y24 y25 y26 y27 y28 y29 y30 y31 y32 y33 y34 y35 y36 y37 y38 y39
      unfold sumplaw14_InodeDoes.j2
      repeat' first
      | (with_reducible exact ih0 _ _ _ _ _ _ _ _ _ _ _ _ _ _ _ _ _ _ _)
      | (with_reducible exact ih1 _ _ _ _ _ _ _ _ _ _ _ _ _ _ _ _ _ _ _ _ _ _ _ _ _ _ _ _ _ _ _ _ _ _ _ _ _ _)
      | (with_reducible exact ih2 _ _ _ _ _ _ _ _ _ _ _ _ _ _ _ _ _ _ _ _ _ _ _ _ _ _ _ _ _ _ _ _ _ _ _ _ _ _ _ _)
      | (with_reducible exact inode_Resize.mono _ _ _ _ _ _ _ _ _)
      | (with_reducible exact inode_Right.mono _ _ _ _ _ _ _ _)
      | (with_reducible exact inode_Same.mono _ _ _ _ _ _ _ _ _ _ _ _ _ _ _)
      | (with_reducible exact inode_Words.mono _ _ _ _ _ _ _ _)
      | (with_reducible exact sumplaw14_Few.mono _ _ _ _ _ _ _ _)
      | (with_reducible exact sumplaw14_awake.mono _)
      | (with_reducible exact sumpref01_SameInts.mono _ _ _)
      | (with_reducible exact sumpref09_Resize.mono _ _ _ _ _ _ _ _ _)
      | (with_reducible exact sumpref09_RightNode.mono _ _ _ _ _ _ _ _)
      | (with_reducible exact sumpref09_SameNode.mono _ _ _ _ _ _ _ _ _ _ _ _ _ _ _)
      | (with_reducible exact sumpref09_WordsOf.mono _ _ _ _ _ _ _ _)
      | (with_reducible exact LeO.refl _)
      | (with_reducible exact LeO.none _)
      | (with_reducible refine LeO.ite ?_ ?_)
      | (with_reducible refine LeO.bind ?_ (fun _ => ?_))
      | exact ih0 _ _ _ _ _ _ _ _ _ _ _ _ _ _ _ _ _ _ _
      | exact ih1 _ _ _ _ _ _ _ _ _ _ _ _ _ _ _ _ _ _ _ _ _ _ _ _ _ _ _ _ _ _ _ _ _ _ _ _ _ _
      | exact ih2 _ _ _ _ _ _ _ _ _ _ _ _ _ _ _ _ _ _ _ _ _ _ _ _ _ _ _ _ _ _ _ _ _ _ _ _ _ _ _ _
      | exact inode_Resize.mono _ _ _ _ _ _ _ _ _
      | exact inode_Right.mono _ _ _ _ _ _ _ _
      | exact inode_Same.mono _ _ _ _ _ _ _ _ _ _ _ _ _ _ _
      | exact inode_Words.mono _ _ _ _ _ _ _ _
      | exact sumplaw14_Few.mono _ _ _ _ _ _ _ _
      | exact sumplaw14_awake.mono _
      | exact sumpref01_SameInts.mono _ _ _
      | exact sumpref09_Resize.mono _ _ _ _ _ _ _ _ _
      | exact sumpref09_RightNode.mono _ _ _ _ _ _ _ _
      | exact sumpref09_SameNode.mono _ _ _ _ _ _ _ _ _ _ _ _ _ _ _
      | exact sumpref09_WordsOf.mono _ _ _ _ _ _ _ _
      | exact LeO.none _
      | refine LeO.ite ?_ ?_
      | refine LeO.bind ?_ (fun _ => ?_)
theorem sumplaw14_InodeDoes.mono : ∀ a0 a1 a2 a3 a4 a5 a6 a7 a8 a9 a10 a11 a12 a13 a14 a15 a16 a17 k, LeO (sumplaw14_InodeDoes.f k a0 a1 a2 a3 a4 a5 a6 a7 a8 a9 a10 a11 a12 a13 a14 a15 a16 a17) (sumplaw14_InodeDoes.f (k + 1) a0 a1 a2 a3 a4 a5 a6 a7 a8 a9 a10 a11 a12 a13 a14 a15 a16 a17) := by
  intro a0 a1 a2 a3 a4 a5 a6 a7 a8 a9 a10 a11 a12 a13 a14 a15 a16 a17 k
  obtain ⟨ih0, ih1, ih2⟩ := sumplaw14_InodeDoes.mono_l k
  unfold sumplaw14_InodeDoes.f
  repeat' first
      | (with_reducible exact ih0 _ _ _ _ _ _ _ _ _ _ _ _ _ _ _ _ _ _ _)
      | (with_reducible exact ih1 _ _ _ _ _ _ _ _ _ _ _ _ _ _ _ _ _ _ _ _ _ _ _ _ _ _ _ _ _ _ _ _ _ _ _ _ _ _)
      | (with_reducible exact ih2 _ _ _ _ _ _ _ _ _ _ _ _ _ _ _ _ _ _ _ _ _ _ _ _ _ _ _ _ _ _ _ _ _ _ _ _ _ _ _ _)
      | (with_reducible exact inode_Resize.mono _ _ _ _ _ _ _ _ _)
      | (with_reducible exact inode_Right.mono _ _ _ _ _ _ _ _)
      | (with_reducible exact inode_Same.mono _ _ _ _ _ _ _ _ _ _ _ _ _ _ _)
      | (with_reducible exact inode_Words.mono _ _ _ _ _ _ _ _)
      | (with_reducible exact sumplaw14_Few.mono _ _ _ _ _ _ _ _)
      | (with_reducible exact sumplaw14_awake.mono _)
      | (with_reducible exact sumpref01_SameInts.mono _ _ _)
      | (with_reducible exact sumpref09_Resize.mono _ _ _ _ _ _ _ _ _)
      | (with_reducible exact sumpref09_RightNode.mono _ _ _ _ _ _ _ _)
      | (with_reducible exact sumpref09_SameNode.mono _ _ _ _ _ _ _ _ _ _ _ _ _ _ _)
      | (with_reducible exact sumpref09_WordsOf.mono _ _ _ _ _ _ _ _)
      | (with_reducible exact LeO.refl _)
      | (with_reducible exact LeO.none _)
      | (with_reducible refine LeO.ite ?_ ?_)
      | (with_reducible refine LeO.bind ?_ (fun _ => ?_))
      | exact ih0 _ _ _ _ _ _ _ _ _ _ _ _ _ _ _ _ _ _ _
      | exact ih1 _ _ _ _ _ _ _ _ _ _ _ _ _ _ _ _ _ _ _ _ _ _ _ _ _ _ _ _ _ _ _ _ _ _ _ _ _ _
      | exact ih2 _ _ _ _ _ _ _ _ _ _ _ _ _ _ _ _ _ _ _ _ _ _ _ _ _ _ _ _ _ _ _ _ _ _ _ _ _ _ _ _
      | exact inode_Resize.mono _ _ _ _ _ _ _ _ _
      | exact inode_Right.mono _ _ _ _ _ _ _ _
      | exact inode_Same.mono _ _ _ _ _ _ _ _ _ _ _ _ _ _ _
      | exact inode_Words.mono _ _ _ _ _ _ _ _
      | exact sumplaw14_Few.mono _ _ _ _ _ _ _ _
      | exact sumplaw14_awake.mono _
      | exact sumpref01_SameInts.mono _ _ _
      | exact sumpref09_Resize.mono _ _ _ _ _ _ _ _ _
      | exact sumpref09_RightNode.mono _ _ _ _ _ _ _ _
      | exact sumpref09_SameNode.mono _ _ _ _ _ _ _ _ _ _ _ _ _ _ _
      | exact sumpref09_WordsOf.mono _ _ _ _ _ _ _ _
      | exact LeO.none _
      | refine LeO.ite ?_ ?_
      | refine LeO.bind ?_ (fun _ => ?_)
def sumplaw14_InodeDoes.T17 : Bool × List (List Nat × List Nat) := (true, [([], []), ([], []), ([0, 1], [0, 1]), ([2, 2], [2]), ([3], [3]), ([3], [3]), ([4, 5, 3, 3], [3, 4, 5]), ([3, 6], [3, 6]), ([7, 6], [7]), ([8], [8]), ([9, 8, 8], [8, 9]), ([8], [8]), ([10, 11, 10, 8], [8, 10, 11]), ([8, 12], [8, 12]), ([13, 12], [13]), ([14], [14]), ([15, 14, 14], [14, 15]), ([14], [14]), ([17, 16, 14], [14, 17]), ([16, 18, 14], [14, 16, 18]), ([14, 19], [14, 19]), ([20, 18], [20]), ([21], [21]), ([22, 21, 21], [21, 22]), ([21], [21]), ([24, 23, 21], [21, 24]), ([23, 25, 21], [21, 23, 25]), ([21, 26], [21, 26]), ([27, 25], [27]), ([28], [28]), ([28], [28]), ([29, 30, 28, 28], [28, 29, 30]), ([28], [28]), ([28], [28]), ([32, 33, 31, 28], [28, 32, 33]), ([31, 34, 28], [28, 31, 34]), ([28, 35], [28, 35]), ([36, 34], [36]), ([37], [37]), ([38, 37, 37], [37, 38]), ([37], [37]), ([40, 39, 37], [37, 40]), ([39, 41, 37], [37, 39, 41]), ([37, 42], [37, 42]), ([43, 41], [43]), ([44], [44]), ([44], [44]), ([44], [44]), ([45, 46, 47, 44, 44], [44, 45, 46, 47]), ([44], [44]), ([48, 49, 48, 44], [44, 48, 49]), ([44, 50], [44, 50]), ([51, 50, 0, 1, 2, 3, 4, 5, 6, 7, 8, 9, 10, 11, 12, 13, 14, 15, 16, 17, 18, 19, 20, 21, 22, 23, 24, 25, 26, 27, 28, 29, 30, 31, 32, 33, 34, 35, 36, 37, 38, 39, 40, 41, 42, 43, 44, 45, 46, 47, 48, 49, 50, 51], [51])])
def sumplaw14_InodeDoes.B17 : List Nat := [0, 0, 3, 7, 15, 15, 63, 127, 255, 511, 1023, 511, 4095, 8191, 16383, 32767, 65535, 32767, 262143, 524287, 1048575, 2097151, 4194303, 8388607, 4194303, 33554431, 67108863, 134217727, 268435455, 536870911, 536870911, 2147483647, 536870911, 536870911, 17179869183, 34359738367, 68719476735, 137438953471, 274877906943, 549755813887, 274877906943, 2199023255551, 4398046511103, 8796093022207, 17592186044415, 35184372088831, 35184372088831, 35184372088831, 281474976710655, 35184372088831, 1125899906842623, 2251799813685247, 4503599627370495]
theorem sumplaw14_InodeDoes.tab17 : rtab .any (opsOf Try.f6 17) = sumplaw14_InodeDoes.T17 := by kernel_rfl
theorem sumplaw14_InodeDoes.bits17 : waitsOk sumplaw14_InodeDoes.T17.2 sumplaw14_InodeDoes.B17 = true := by kernel_rfl
end Go.Proofs.Ytbdehbaiihlacaa.PInodeDoes
